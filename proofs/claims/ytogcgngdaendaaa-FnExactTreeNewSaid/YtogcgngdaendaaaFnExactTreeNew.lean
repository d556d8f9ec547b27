/- For every input the law FnExactTreeNew answers true and leaves its arguments as they were: the given statement FnExactTreeNewSaid, without a condition. -/
import Derived.Test.YtogcgngdaendaaaLTreeNew
import Derived.Test.YtogcgngdaendaaaAm3
import Derived.Test.YtogcgngdaendaaaRows
import Derived.ProofKit
namespace Go.Proofs.Ytogcgngdaendaaa
open Go Go.ChangeShapes Go.WideShapes Go.ChangeAt Go.RowKit Go.AM

theorem Try.own : ownKnob Try.prog.godebug = none := by kernel_rfl
theorem Try.laidOut : laidOutB Try.prog = true := by kernel_rfl
theorem Try.rt22 : rtOf Try.prog 60 22 = some (.sl (.int .i64 .nil) .nil) := by kernel_rfl
theorem Try.rt78 : rtOf Try.prog 60 78 = some rSchema := by kernel_rfl
theorem Try.reads11 : ∀ t ∈ Try.f11.params.toList, Try.prog.readableRec t = true ∧ t < Try.prog.types.size := by
  intro t ht
  have : t = 78 ∨ t = 22 := by simpa [Try.params11] using ht
  rcases this with rfl | rfl <;> exact ⟨by kernel_rfl, of_decide_eq_true (by kernel_rfl)⟩

set_option maxRecDepth 100000 in
theorem lifted (os : Os) (started : os.Started) (H : Type) (enc : TypeId × Value → H) :
    ReturnsInHanded {} Try.checked os 11 .any (Rows.fnExactTreeNewSpec.pre6 enc Try.prog Try.f11 Rows.fnExactTreeNewRow.domain false) (Rows.fnExactTreeNewSpec.post enc Try.prog Try.f11 false true false false) := by
  refine returnsInHanded_of_change_sized (C := Try.checked) Try.own started (by kernel_rfl) Try.func11
    (ChangeSpec.witness6 (enc := enc) (C := Try.checked) false ⟨#[], #[.agg #[.slice none 0 0, .slice none 0 0], .slice none 0 0], []⟩ 8 (by kernel_rfl) (by kernel_rfl) (by kernel_rfl) (by kernel_rfl)) ?_
  intro W base args ds gs before hval0 hW hcnd hwt _
  have hval : ∀ (j : Nat) t v, Try.f11.params[j]? = some t → args[j]? = some v → Value.okWide Try.prog W .any base t v := hval0
  have hW' : DataW.Whole enc Try.prog Try.f11.params.toList Rows.fnExactTreeNewSpec.vars false W args.toList ds gs before := hW
  obtain ⟨p, q, hA0, hV, hb, hfz, hnd⟩ := hW'
  obtain ⟨rfl, rfl⟩ := trodVars_none hV
  have hA : DataW.TrodAll enc Try.prog W 0 (fun _ => true) true [78, 22] args.toList ds p := hA0
  have hw : ∀ k ∈ DataW.weightsEach Try.prog [78, 22] ds, k ≤ reachBytes := by
    intro k hk
    have := List.all_eq_true.1 hwt k (by
      show k ∈ DataW.weightsEach Try.prog ([78, 22] ++ []) (ds ++ [])
      simpa using hk)
    simpa using this
  have hlen := (trod_len hA).1
  have hdl := (trod_len hA).2
  obtain ⟨v0, h0, r0⟩ := law_args hA hw 0 78 rfl
  have h0' : args[0]? = some v0 := by simpa using h0
  obtain ⟨x0, g0, rel0⟩ := arg_agg Try.underlying78 (hval 0 78 v0 rfl h0') Try.rt78 r0 dec_Schema
  obtain ⟨v1, h1, r1⟩ := law_args hA hw 1 22 rfl
  have h1' : args[1]? = some v1 := by simpa using h1
  obtain ⟨x1, g1, rel1⟩ := arg_one (c := fun l => aI false l) (okWide_slice Try.underlying22 (hval 1 22 v1 rfl h1')) Try.rt22 r1 dec_okI
  have hsz : args.size = 2 := by simpa using hlen
  refine (law_calls (fnExactTreeNew x0 x1 g0 g1) (by rw [hsz]; rfl) (fun i t hi => ?_)).mono (fun e W' he => ?_)
  · match i, hi with
    | 0, hi => cases hi; exact ⟨v0, h0', rel0⟩
    | 1, hi => cases hi; exact ⟨v1, h1', rel1⟩
    | i + 2, hi => simp at hi
  · have hds : Rows.fnExactTreeNewSpec.fn H ds = { results := [.lit (.bool true)], args := ds } := by
      match ds, hdl with
      | [d0, d1], _ => rfl
    exact ⟨.bool true, he.1, law_post hW rfl hds Try.laidOut Try.reads11 (t := 4) (by kernel_rfl) (by kernel_rfl) he.2⟩

theorem holds : Rows.FnExactTreeNewSaid :=
  OpenClaim.holds_of_wide 11 Try.f11 rfl rfl rfl rfl rfl rfl rfl ⟨rfl, rfl, rfl, rfl, rfl⟩ rfl rfl rfl rfl rfl (by kernel_rfl) Try.func11 (by kernel_rfl)
    (of_decide_eq_true (by kernel_rfl)) (by unfold Func.isWrapper; first | (rw [if_pos (by decide +kernel)]; kernel_rfl) | (rw [if_neg (by decide +kernel)]; exact ⟨rfl, rfl⟩))
    (fun os started H enc _ => lifted os started H enc)

end Go.Proofs.Ytogcgngdaendaaa
