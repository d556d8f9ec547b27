/- For every input the law FnExactLeafVote answers true and leaves its arguments as they were: the given statement FnExactLeafVoteSaid, without a condition. -/
import Derived.Test.YtogcgngdaendaaaLLeafVote
import Derived.Test.YtogcgngdaendaaaAm3
import Derived.Test.YtogcgngdaendaaaRows
import Derived.ProofKit
namespace Go.Proofs.Ytogcgngdaendaaa
open Go Go.ChangeShapes Go.WideShapes Go.ChangeAt Go.RowKit Go.AM

theorem Try.own : ownKnob Try.prog.godebug = none := by kernel_rfl
theorem Try.laidOut : laidOutB Try.prog = true := by kernel_rfl
theorem Try.rt38 : rtOf Try.prog 60 38 = some rTree := by kernel_rfl
theorem Try.rt78 : rtOf Try.prog 60 78 = some rSchema := by kernel_rfl
theorem Try.rt89 : rtOf Try.prog 60 89 = some rEx := by kernel_rfl
theorem Try.reads13 : ∀ t ∈ Try.f13.params.toList, Try.prog.readableRec t = true ∧ t < Try.prog.types.size := by
  intro t ht
  have : t = 78 ∨ t = 38 ∨ t = 89 := by simpa [Try.params13] using ht
  rcases this with rfl | rfl | rfl <;> exact ⟨by kernel_rfl, of_decide_eq_true (by kernel_rfl)⟩

set_option maxRecDepth 100000 in
theorem lifted (os : Os) (started : os.Started) (H : Type) (enc : TypeId × Value → H) :
    ReturnsInHanded {} Try.checked os 13 .any (Rows.fnExactLeafVoteSpec.pre6 enc Try.prog Try.f13 Rows.fnExactLeafVoteRow.domain false) (Rows.fnExactLeafVoteSpec.post enc Try.prog Try.f13 false true false false) := by
  refine returnsInHanded_of_change_sized (C := Try.checked) Try.own started (by kernel_rfl) Try.func13
    (ChangeSpec.witness6 (enc := enc) (C := Try.checked) false ⟨#[], #[.agg #[.slice none 0 0, .slice none 0 0], .agg #[.slice none 0 0, .int .i64 0], .agg #[.slice none 0 0, .int .i64 0]], []⟩ 8 (by kernel_rfl) (by kernel_rfl) (by kernel_rfl) (by kernel_rfl)) ?_
  intro W base args ds gs before hval0 hW hcnd hwt _
  have hval : ∀ (j : Nat) t v, Try.f13.params[j]? = some t → args[j]? = some v → Value.okWide Try.prog W .any base t v := hval0
  have hW' : DataW.Whole enc Try.prog Try.f13.params.toList Rows.fnExactLeafVoteSpec.vars false W args.toList ds gs before := hW
  obtain ⟨p, q, hA0, hV, hb, hfz, hnd⟩ := hW'
  obtain ⟨rfl, rfl⟩ := trodVars_none hV
  have hA : DataW.TrodAll enc Try.prog W 0 (fun _ => true) true [78, 38, 89] args.toList ds p := hA0
  have hw : ∀ k ∈ DataW.weightsEach Try.prog [78, 38, 89] ds, k ≤ reachBytes := by
    intro k hk
    have := List.all_eq_true.1 hwt k (by
      show k ∈ DataW.weightsEach Try.prog ([78, 38, 89] ++ []) (ds ++ [])
      simpa using hk)
    simpa using this
  have hlen := (trod_len hA).1
  have hdl := (trod_len hA).2
  obtain ⟨v0, h0, r0⟩ := law_args hA hw 0 78 rfl
  have h0' : args[0]? = some v0 := by simpa using h0
  obtain ⟨x0, g0, rel0⟩ := arg_agg Try.underlying78 (hval 0 78 v0 rfl h0') Try.rt78 r0 dec_Schema
  obtain ⟨v1, h1, r1⟩ := law_args hA hw 1 38 rfl
  have h1' : args[1]? = some v1 := by simpa using h1
  obtain ⟨x1, g1, rel1⟩ := arg_agg Try.underlying38 (hval 1 38 v1 rfl h1') Try.rt38 r1 dec_Tree
  obtain ⟨v2, h2, r2⟩ := law_args hA hw 2 89 rfl
  have h2' : args[2]? = some v2 := by simpa using h2
  obtain ⟨x2, g2, rel2⟩ := arg_agg Try.underlying89 (hval 2 89 v2 rfl h2') Try.rt89 r2 dec_Ex
  have hsz : args.size = 3 := by simpa using hlen
  refine (law_calls (fnExactLeafVote x0 x1 x2 g0 g1 g2) (by rw [hsz]; rfl) (fun i t hi => ?_)).mono (fun e W' he => ?_)
  · match i, hi with
    | 0, hi => cases hi; exact ⟨v0, h0', rel0⟩
    | 1, hi => cases hi; exact ⟨v1, h1', rel1⟩
    | 2, hi => cases hi; exact ⟨v2, h2', rel2⟩
    | i + 3, hi => simp at hi
  · have hds : Rows.fnExactLeafVoteSpec.fn H ds = { results := [.lit (.bool true)], args := ds } := by
      match ds, hdl with
      | [d0, d1, d2], _ => rfl
    exact ⟨.bool true, he.1, law_post hW rfl hds Try.laidOut Try.reads13 (t := 4) (by kernel_rfl) (by kernel_rfl) he.2⟩

theorem holds : Rows.FnExactLeafVoteSaid :=
  OpenClaim.holds_of_wide 13 Try.f13 rfl rfl rfl rfl rfl rfl rfl ⟨rfl, rfl, rfl, rfl, rfl⟩ rfl rfl rfl rfl rfl (by kernel_rfl) Try.func13 (by kernel_rfl)
    (of_decide_eq_true (by kernel_rfl)) (by unfold Func.isWrapper; first | (rw [if_pos (by decide +kernel)]; kernel_rfl) | (rw [if_neg (by decide +kernel)]; exact ⟨rfl, rfl⟩))
    (fun os started H enc _ => lifted os started H enc)

end Go.Proofs.Ytogcgngdaendaaa
