/- Lemmas for the proof of this claim. -/
import Derived.Test.YtpbahibieegbgaaGreatDll
import Derived.Test.YtpbahibieegbgaaGreatAm4
import Derived.Test.YtpbahibieegbgaaGreatEnf
namespace Go.AM
open Go Go.Proofs
set_option maxRecDepth 100000
set_option maxHeartbeats 8000000 in
theorem spec_DrawPathTo (code : List UInt8) (h : code.length ≤ 2 ^ 40) : ACalls Tryz.prog 19 [.one (aB false code)] (fun r => ∃ x : DSchema × DTree × DEx, (okSchema (2 ^ 10) x.1 ∧ (okTree (2 ^ 12) x.2.1 ∧ x.2.1.nodes.length ≤ 31) ∧ okEx (2 ^ 20 + 1) x.2.2) ∧ r = .tup [.agg (cSchema true true x.1), .agg (cTree true true x.2.1), .agg (cEx true false x.2.2)]) := by
 have nt : Tryz.f19.ntmps = 20 := rfl
 have rs : Tryz.f19.results = #[.cell 2 27, .cell 3 30, .cell 4 50] := rfl
 refine ACalls.of_runC (m := 400) mixed Tryz.func19 rfl rfl (Nat.le_of_ble_eq_true rfl) ?_
 simp only [nt, rs]
 clear nt rs
 (try refine am (h := ?_)); (try exact amT)
 repeat' with_reducible first|apply And.intro|intro _
 all_goals try exact amA
 refine CallK.new (spec_l1New code h) ?_
 rintro xc
 (try refine am (h := ?_)); (try exact amT)
 repeat' with_reducible first|apply And.intro|intro _
 all_goals try exact amA
 refine CallK.cur (spec_l5Right code.length h) rfl rfl rfl (fun _ _ _ => amC) ?_
 rintro s ⟨hs, hs1, hs2, _⟩
 (try refine am (h := ?_)); (try exact amT)
 have hs20 : okSchema (2 ^ 20) s := okSchema_up hs
 repeat' with_reducible first|apply And.intro|intro _
 all_goals try exact amA
 refine CallK.cur (spec_l19Draw code.length h s _ _ hs20 hs2) rfl rfl rfl (fun _ _ _ => amC) ?_
 rintro t ht
 (try refine am (h := ?_)); (try exact amT)
 repeat' with_reducible first|apply And.intro|intro _
 all_goals try exact amA
 refine CallCE.cur (spec_l7Draw code.length h s _ _ hs20) rfl (⟨[], 0⟩) ?hcq rfl rfl rfl (fun _ _ _ => amC) (fun _ => rfl) (fun _ => rfl) ?_
 case hcq => exact ⟨⟨Nat.zero_le _, fun x hx => by simp at hx⟩, ⟨by show IntKind.i64.min ≤ (0 : Int); decide, by show (0 : Int) ≤ IntKind.i64.max; decide⟩⟩
 rintro e he
 (try refine am (h := ?_)); (try exact amT)
 repeat' with_reducible first|apply And.intro|intro _
 all_goals try exact amA
 refine FinK.ex ((s, t, e)) ?hq1 ?_
 case hq1 => exact ⟨hs, ht, he⟩
 refine FinK.tup ?_ ?_
 all_goals (try refine amF (h := ?_))
 all_goals (try exact amT)
theorem bdT_z {t : DTree} (h : okTree (2 ^ 12) t) (hl : t.nodes.length ≤ 31) : zTree t ≤ 2 ^ 40 := by
 have hst : ∀ x : DStats, okStats (2 ^ 12) x → zStats x ≤ 2 ^ 25 := fun x h => by
  unfold zStats szW tot
  have h1 := h.1.1
  have h2 := h.2.1
  have h3 := sm_bd (f := List.length) (B := 2 ^ 12) (l := x.cells) (fun r hr => (h.2.2 r hr).1)
  have h4 : 2 ^ 12 * x.cells.length ≤ 2 ^ 12 * 2 ^ 12 := Nat.mul_le_mul_left _ h2
  omega
 have hnd : ∀ x : DNode, okNode (2 ^ 12) x → zNode x ≤ 2 ^ 26 := fun x h => by
  unfold zNode
  have h1 := h.2.2.1.1
  have h2 := hst _ h.2.2.2.2.1
  have h3 := h.2.2.2.2.2.2.1.1
  omega
 unfold zTree zNodeS
 have h2 := sm_bd (f := zNode) (B := 2 ^ 26) (l := t.nodes) (fun x hx => hnd x (h.1.2 x hx))
 have h3 : 2 ^ 26 * t.nodes.length ≤ 2 ^ 26 * 31 := Nat.mul_le_mul_left _ hl
 omega
set_option maxHeartbeats 8000000 in
theorem spec_DrawEnforce (code : List UInt8) (h : code.length ≤ 2 ^ 40) : ACalls Tryz.prog 8 [.one (aB false code)] (fun r => ∃ x : DSchema × DTree × Int, (okSchema (2 ^ 10) x.1 ∧ (okTree (2 ^ 12) x.2.1 ∧ x.2.1.nodes.length ≤ 31) ∧ inK .i64 x.2.2) ∧ r = .tup [.agg (cSchema true true x.1), .agg (cTree true true x.2.1), .one (.int .i64 x.2.2)]) := by
 have nt : Tryz.f8.ntmps = 25 := rfl
 have rs : Tryz.f8.results = #[.cell 2 27, .cell 3 30, .tmp 4] := rfl
 refine ACalls.of_runC (m := 400) mixed Tryz.func8 rfl rfl (Nat.le_of_ble_eq_true rfl) ?_
 simp only [nt, rs]
 clear nt rs
 (try refine am (h := ?_)); (try exact amT)
 repeat' with_reducible first|apply And.intro|intro _
 all_goals try exact amA
 refine CallK.new (spec_l1New code h) ?_
 rintro xc
 (try refine am (h := ?_)); (try exact amT)
 repeat' with_reducible first|apply And.intro|intro _
 all_goals try exact amA
 refine CallK.cur (spec_l5Right code.length h) rfl rfl rfl (fun _ _ _ => amC) ?_
 rintro s ⟨hs, hs1, hs2, _⟩
 (try refine am (h := ?_)); (try exact amT)
 have hs20 : okSchema (2 ^ 20) s := okSchema_up hs
 repeat' with_reducible first|apply And.intro|intro _
 all_goals try exact amA
 refine CallK.cur (spec_l19Draw code.length h s _ _ hs20 hs2) rfl rfl rfl (fun _ _ _ => amC) ?_
 rintro t ⟨ht, htl⟩
 (try refine am (h := ?_)); (try exact amT)
 have hz := bdT_z ht htl
 have ht47 : okTree (2 ^ 47) t := okTree_up ht
 have hu : sm units t.nodes ≤ 2 ^ 42 := by
  have h1 := smUnits_le (l := t.nodes) (i := t.nodes.length)
  rw [List.take_length] at h1
  unfold zTree zNodeS at hz
  omega
 repeat' with_reducible first|apply And.intro|intro _
 all_goals try exact amA
 refine CallCE.one (specTreeUnits t _ _ ht47 hz) (fun _ => amC) rfl ?_
 (try refine am (h := ?_)); (try exact amT)
 refine CallCE.one (specTreeUnits t _ _ ht47 hz) (fun _ => amC) rfl ?_
 (try refine am (h := ?_)); (try exact amT)
 generalize sm units t.nodes = U at *
 repeat' with_reducible first|apply And.intro|intro _
 all_goals try exact amA
 refine CallCE.cur (spec_l1PickInt code.length h true (some false) [0, 62, 20, 40, 80, 120, 2000, -1, (U : Int), (U : Int) - 1] (by simp) (by simp)) rfl (0) ?hcq rfl rfl rfl (fun _ _ _ => amC) (fun _ => rfl) (fun _ => rfl) ?_
 case hcq => exact by simp
 rintro b hb
 (try refine am (h := ?_)); (try exact amT)
 have hb2 : -1 ≤ b ∧ b ≤ 2 ^ 42 := by simp at hb; omega
 repeat' with_reducible first|apply And.intro|intro _
 all_goals try exact amA
 refine FinK.ex ((s, t, b)) ?hq2 ?_
 case hq2 => exact ⟨hs, ⟨ht, htl⟩, by show (-9223372036854775808 : Int) ≤ b; omega, by show b ≤ (9223372036854775807 : Int); omega⟩
 refine FinK.tup ?_ ?_
 all_goals (try refine amF (h := ?_))
 all_goals (try exact amT)
end Go.AM
namespace Go.AM
open Go Go.Proofs
set_option maxRecDepth 100000
theorem spec_DrawPathToR (code : List UInt8) (h : code.length ≤ 2 ^ 40) : ACalls Tryz.prog 19 [.one (aB false code)] (fun r => ∃ x : DSchema × DTree × DEx, (okSchema (2 ^ 10) x.1 ∧ (okTree (2 ^ 12) x.2.1 ∧ x.2.1.nodes.length ≤ 31) ∧ okEx (2 ^ 20 + 1) x.2.2) ∧ r = .tup [.agg (cSchema false true x.1), .agg (cTree false true x.2.1), .agg (cEx false false x.2.2)]) :=
 ACalls.roX (spec_DrawPathTo code h)
theorem spec_DrawEnforceR (code : List UInt8) (h : code.length ≤ 2 ^ 40) : ACalls Tryz.prog 8 [.one (aB false code)] (fun r => ∃ x : DSchema × DTree × Int, (okSchema (2 ^ 10) x.1 ∧ (okTree (2 ^ 12) x.2.1 ∧ x.2.1.nodes.length ≤ 31) ∧ inK .i64 x.2.2) ∧ r = .tup [.agg (cSchema false true x.1), .agg (cTree false true x.2.1), .one (.int .i64 x.2.2)]) :=
 ACalls.roX (spec_DrawEnforce code h)
end Go.AM
namespace Go.AM
open Go Go.Proofs
set_option maxRecDepth 100000
theorem implEnforceR (s : DSchema) (t : DTree) (b : Int) (u v u' v' : Bool) (h : okSchema (2 ^ 47) s) (h' : okTree (2 ^ 40) t) (hn : t.nodes.length ≤ 2 ^ 38) (hz : zTree t ≤ 2 ^ 40) (hb : inK .i64 b) : ACalls Tryz.prog 9 [.agg (cSchema u v s), .agg (cTree u' v' t), .one (.int .i64 b)] (fun r => r = .tup [.agg (cTree false true (enforce s t b).1), .one (aI false (enforce s t b).2)]) :=
 ACalls.ro1 (implEnforce s t b u v u' v' h h' hn hz hb)
theorem specEnforceR (s : DSchema) (t : DTree) (b : Int) (u v u' v' : Bool) (h : okSchema (2 ^ 47) s) (h' : okTree (2 ^ 40) t) (hn : t.nodes.length ≤ 2 ^ 38) (hz : zTree t ≤ 2 ^ 40) (hb : inK .i64 b) : ACalls Tryz.prog 12 [.agg (cSchema u v s), .agg (cTree u' v' t), .one (.int .i64 b)] (fun r => r = .tup [.agg (cTree false true (enforce s t b).1), .one (aI false (enforce s t b).2)]) :=
 ACalls.ro1 (specEnforce s t b u v u' v' h h' hn hz hb)
theorem implActiveLeavesR (t : DTree) (u v : Bool) (hl : t.nodes.length ≤ 2 ^ 43) (h2 : okTree (2 ^ 47) t) : ACalls Tryz.prog 16 [.agg (cTree u v t)] (fun r => r = .val (.one (aI false (activeL t)))) := ACalls.ro1 (implActiveLeaves t u v hl h2)
theorem specActiveLeavesR (t : DTree) (u v : Bool) (hl : t.nodes.length ≤ 2 ^ 43) (h2 : okTree (2 ^ 47) t) : ACalls Tryz.prog 17 [.agg (cTree u v t)] (fun r => r = .val (.one (aI false (activeL t)))) := ACalls.ro1 (specActiveLeaves t u v hl h2)
end Go.AM
