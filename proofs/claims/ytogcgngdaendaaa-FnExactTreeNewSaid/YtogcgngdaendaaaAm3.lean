/- The framework AM, part 19: arguments of calls. -/
import Derived.Test.YtogcgngdaendaaaAm2
import Derived.SizedLaws
import Derived.WideKeyArgs
import Derived.ChangeSame
import Derived.Below
namespace Go.AM
open Go
section
variable {N : Nat} {w0 : World} {E A : Nat → Prop} {F : Frm} {T : Nat → TV} {H : Nat → OB} {a : Act} {w : World} {own : Own} {rt : Rt} {P : Program} {o : Oper} {n : Nat}

theorem rd_none {b : AV} {v : Value} {own : Own} (h : Rd w own b v) : Rd w (fun _ => none) b v := Rd.mono (fun _ _ _ h => ⟨rfl, h⟩) _ _ h

theorem borS0_sound (h : SRf N w0 E F A T H a w own rt) {s : SV} {v : Value} (hok : (borS0 H s).1) (hr : RelS0 w own rt H s v) :
    ((borS0 H s).2.1 = false → Rd w own (borS0 H s).2.2 v) ∧ Rd w (fun _ => none) (borS0 H s).2.2 v := by
  cases s with
  | av b => exact ⟨fun _ => hr, rd_none hr⟩
  | own k p vs =>
    obtain ⟨v', e1, e2⟩ := live_row h hok
    have := hr.2 hok
    rw [e1] at this
    obtain rfl := Option.some.inj this
    exact ⟨(fun e => by cases e), e2.rd⟩
  | ref k p vs i off =>
    simp only [borS0] at hok ⊢
    split at hok
    · rename_i nl es m f ea
      obtain ⟨hl, him⟩ := hok
      obtain ⟨v', e1, e2⟩ := live_row h hl
      obtain ⟨b, m', cap, e3, hv⟩ := hr.2 hl
      rw [ea] at e2
      obtain ⟨b', cap', c, T', e4, _, hb, _, _, _, hc⟩ := ow_row e2 (by omega)
      rw [e1, e4] at e3
      simp only [Option.some.injEq, Value.slice.injEq, Addr.mk.injEq] at e3
      obtain ⟨⟨rfl, _⟩, rfl, rfl⟩ := e3
      simp only [ea, AV.es] at hv
      refine ⟨(fun e => by cases e), b', _, c, T', (0, 0), hv, rfl, hb, fun j hj => ?_⟩
      obtain ⟨x, f1, f2⟩ := hc i him (off + j) (by omega)
      exact ⟨x, by rw [Nat.add_assoc]; exact f1, f2.rd⟩
    · exact hok.elim
  | view k p vs lo hi =>
    simp only [borS0] at hok ⊢
    split at hok
    · rename_i nl es m f ea
      obtain ⟨hl, hlo, hhi⟩ := hok
      obtain ⟨v', e1, e2⟩ := live_row h hl
      obtain ⟨ad, m', cap, a', e3, hlc, hv0, hv⟩ := hr.2 hl
      rw [ea] at e2
      obtain ⟨ad2, cap2, e4, g1, g2, g3⟩ := ow_slice e2
      rw [e1, e4] at e3
      simp only [Option.some.injEq, Value.slice.injEq] at e3
      obtain ⟨rfl, rfl, rfl⟩ := e3
      refine ⟨(fun e => by cases e), a', _, hv, by omega, by omega, ⟨fun e => by simp at e, fun e => by simp at e⟩, fun e => ?_, fun hn => ?_⟩
      · by_cases hc : cap2 = lo
        · omega
        · have := hv0 (.inl hc)
          rw [e] at this
          have h2 : ad2 = none := by cases ad2 <;> simp at this ⊢
          have := g3 h2
          omega
      · obtain ⟨b, cap3, c, T', e5, _, hb, _, _, _, hc⟩ := ow_row e2 (by omega)
        rw [e4] at e5
        simp only [Value.slice.injEq] at e5
        obtain ⟨rfl, _, rfl⟩ := e5
        have := hv0 (.inl (by omega))
        simp only [Option.map_some, Addr.add_lit, ea, AV.es, Nat.zero_add] at this
        refine ⟨b, _, c, T', (0, 0), this, rfl, hb, fun i hi' j hj => ?_⟩
        obtain ⟨x, f1, f2⟩ := hc (lo + i) (by omega) j hj
        exact ⟨x, by rw [← Nat.add_assoc, ← Nat.add_mul]; exact f1, f2.rd⟩
    · exact hok.elim
  | clo g l => exact ⟨fun _ => trivial, trivial⟩
  | junk => exact ⟨fun _ => trivial, trivial⟩

theorem borL0_sound (h : SRf N w0 E F A T H a w own rt) : ∀ (l : List SV), (borL0 H l).1 → (borL0 H l).2.2.length = l.length ∧ ∀ (j : Nat) (s : SV) (v : Value), l[j]? = some s → RelS0 w own rt H s v →
    ∃ b, (borL0 H l).2.2[j]? = some b ∧ ((borL0 H l).2.1 = false → Rd w own b v) ∧ Rd w (fun _ => none) b v
  | [], _ => ⟨rfl, fun j s v hj => by simp at hj⟩
  | s :: r, hok => by
    obtain ⟨i1, i2⟩ := borL0_sound h r hok.2
    refine ⟨by simp [borL0, i1], fun j s' v hj hr => ?_⟩
    simp only [borL0, Bool.or_eq_false_iff]
    cases j with
    | zero =>
      simp only [List.getElem?_cons_zero, Option.some.injEq] at hj
      subst hj
      obtain ⟨g1, g2⟩ := borS0_sound h hok.1 hr
      exact ⟨_, rfl, fun e => g1 e.1, g2⟩
    | succ j =>
      obtain ⟨b, f1, f2, f3⟩ := i2 j s' v (by simpa using hj) hr
      exact ⟨b, by simpa using f1, fun e => f2 e.2, f3⟩

theorem borS_sound (h : SRf N w0 E F A T H a w own rt) {s : SV} {v : Value} (hok : (borS H s).1) (hr : RelS w own rt H s v) :
    ((borS H s).2.1 = false → Rd w own (borS H s).2.2 v) ∧ Rd w (fun _ => none) (borS H s).2.2 v := by
  cases s with
  | clo g l =>
    obtain ⟨cs, rfl, h1, h2⟩ := hr
    obtain ⟨i1, i2⟩ := borL0_sound h l hok
    have key : ∀ (j : Nat), j < l.length → ∃ x, cs[j]? = some x ∧ ((borL0 H l).2.1 = false → Rd w own (gl .junk (borL0 H l).2.2 j) x) ∧ Rd w (fun _ => none) (gl .junk (borL0 H l).2.2 j) x := fun j hj => by
      obtain ⟨x, f1, f2⟩ := h2 j _ (List.getElem?_eq_getElem hj)
      obtain ⟨b, g1, g2, g3⟩ := i2 j _ x (List.getElem?_eq_getElem hj) f2
      have : gl .junk (borL0 H l).2.2 j = b := by rw [gl_eq, List.getD, g1]; rfl
      rw [this]
      exact ⟨x, f1, g2, g3⟩
    exact ⟨fun e => ⟨cs, rfl, h1, fun j hj => let ⟨x, f1, f2, _⟩ := key j hj; ⟨x, f1, f2 e⟩⟩, cs, rfl, h1, fun j hj => let ⟨x, f1, _, f3⟩ := key j hj; ⟨x, f1, f3⟩⟩
  | _ => simp only [borS, RelS] at hok hr ⊢; exact borS0_sound h hok hr

theorem borL_sound (h : SRf N w0 E F A T H a w own rt) : ∀ (l : List SV), (borL H l).1 → (borL H l).2.2.length = l.length ∧ ∀ (j : Nat) (s : SV) (v : Value), l[j]? = some s → RelS w own rt H s v →
    ∃ b, (borL H l).2.2[j]? = some b ∧ ((borL H l).2.1 = false → Rd w own b v) ∧ Rd w (fun _ => none) b v
  | [], _ => ⟨rfl, fun j s v hj => by simp at hj⟩
  | s :: r, hok => by
    obtain ⟨i1, i2⟩ := borL_sound h r hok.2
    refine ⟨by simp [borL, i1], fun j s' v hj hr => ?_⟩
    simp only [borL, Bool.or_eq_false_iff]
    cases j with
    | zero =>
      simp only [List.getElem?_cons_zero, Option.some.injEq] at hj
      subst hj
      obtain ⟨g1, g2⟩ := borS_sound h hok.1 hr
      exact ⟨_, rfl, fun e => g1 e.1, g2⟩
    | succ j =>
      obtain ⟨b, f1, f2, f3⟩ := i2 j s' v (by simpa using hj) hr
      exact ⟨b, by simpa using f1, fun e => f2 e.2, f3⟩

theorem borT_sound (h : SRf N w0 E F A T H a w own rt) {t : TV} {v : Value} (hok : (borT H t).1) (hr : RelT w own rt H t v) :
    ((borT H t).2.1 = false → RelA w own (borT H t).2.2 v) ∧ RelA w (fun _ => none) (borT H t).2.2 v := by
  cases t with
  | one s => exact borS_sound h hok hr
  | agg l =>
    obtain ⟨cs, rfl, h1, h2⟩ := hr
    obtain ⟨i1, i2⟩ := borL_sound h l hok
    have key : ∀ (j : Nat) (b : AV), (borL H l).2.2[j]? = some b → ∃ x, cs[j]? = some x ∧ ((borL H l).2.1 = false → Rd w own b x) ∧ Rd w (fun _ => none) b x := fun j b hb => by
      have hj : j < l.length := by rw [← i1]; exact (List.getElem?_eq_some_iff.1 hb).1
      obtain ⟨x, f1, f2⟩ := h2 j _ (List.getElem?_eq_getElem hj)
      obtain ⟨b', g1, g2, g3⟩ := i2 j _ x (List.getElem?_eq_getElem hj) f2
      rw [hb] at g1
      cases g1
      exact ⟨x, f1, g2, g3⟩
    exact ⟨fun e => ⟨cs, rfl, by rw [h1]; exact i1.symm, fun j b hb => let ⟨x, f1, f2, _⟩ := key j b hb; ⟨x, f1, f2 e⟩⟩, cs, rfl, by rw [h1]; exact i1.symm, fun j b hb => let ⟨x, f1, _, f3⟩ := key j b hb; ⟨x, f1, f3⟩⟩
  | _ => exact hok.elim

theorem borA_sound (h : SRf N w0 E F A T H a w own rt) : ∀ (l : List TV) (vs : List Value), (borA H l).1 → vs.length = l.length → (∀ (i : Nat) (t : TV), l[i]? = some t → ∃ v, vs[i]? = some v ∧ RelT w own rt H t v) →
    (borA H l).2.2.length = l.length ∧ ∀ (i : Nat) (t : AT), (borA H l).2.2[i]? = some t → ∃ v, vs[i]? = some v ∧ ((borA H l).2.1 = false → RelA w own t v) ∧ RelA w (fun _ => none) t v
  | [], vs, _, _, _ => ⟨rfl, fun i t hi => by simp [borA] at hi⟩
  | t :: r, [], _, hl, _ => by simp at hl
  | t :: r, v :: vs, hok, hl, hr => by
    obtain ⟨i1, i2⟩ := borA_sound h r vs hok.2 (by simpa using hl) (fun i t' hi => by
      obtain ⟨x, f1, f2⟩ := hr (i + 1) t' (by simpa using hi)
      exact ⟨x, by simpa using f1, f2⟩)
    refine ⟨by simp [borA, i1], fun i t' hi => ?_⟩
    simp only [borA, Bool.or_eq_false_iff] at hi ⊢
    cases i with
    | zero =>
      simp only [List.getElem?_cons_zero, Option.some.injEq] at hi
      subst hi
      obtain ⟨x, f1, f2⟩ := hr 0 t rfl
      simp only [List.getElem?_cons_zero, Option.some.injEq] at f1
      subst f1
      obtain ⟨g1, g2⟩ := borT_sound h hok.1 f2
      exact ⟨v, rfl, fun e => g1 e.1, g2⟩
    | succ i =>
      obtain ⟨x, f1, f2, f3⟩ := i2 i t' (by simpa using hi)
      exact ⟨x, by simpa using f1, fun e => f2 e.2, f3⟩

/-- The function that is called, and what it has captured. -/
theorem fnOf_sound {t : TV} {v : Value} {f : FuncId} {cap : List TV} (h : fnOf t = some (f, cap)) (hr : RelT w own rt H t v) :
    ∃ cs : Array Value, v = .func (.func f) #[] cs ∧ cs.size = cap.length ∧ ∀ (i : Nat) (t : TV), cap[i]? = some t → ∃ x, cs[i]? = some x ∧ RelT w own rt H t x := by
  unfold fnOf at h
  split at h
  · rename_i f' l
    simp only [Option.some.injEq, Prod.mk.injEq] at h
    obtain ⟨rfl, rfl⟩ := h
    obtain ⟨cs, rfl, h1, h2⟩ := hr
    have key : ∀ (l : List SV) (cs : List Value), cs.length = l.length → (∀ (j : Nat) (s : SV), l[j]? = some s → ∃ x, cs[j]? = some x ∧ RelS0 w own rt H s x) → cs.length = (capL l).length ∧ ∀ (i : Nat) (t : TV), (capL l)[i]? = some t → ∃ x, cs[i]? = some x ∧ RelT w own rt H t x := by
      intro l
      induction l with
      | nil => intro cs h _; exact ⟨h, fun i t hi => by simp [capL] at hi⟩
      | cons s l ih =>
        intro cs hl hc
        cases cs with
        | nil => simp at hl
        | cons c cs =>
          obtain ⟨i1, i2⟩ := ih cs (by simpa using hl) (fun j s hj => by
            obtain ⟨x, f1, f2⟩ := hc (j + 1) s (by simpa using hj)
            exact ⟨x, by simpa using f1, f2⟩)
          refine ⟨by simp [capL, i1], fun i t hi => ?_⟩
          cases i with
          | zero =>
            simp only [capL, List.getElem?_cons_zero, Option.some.injEq] at hi
            subst hi
            obtain ⟨x, f1, f2⟩ := hc 0 s rfl
            simp only [List.getElem?_cons_zero, Option.some.injEq] at f1
            subst f1
            refine ⟨c, rfl, ?_⟩
            cases s with
            | clo g l' => trivial
            | _ => exact f2
          | succ i =>
            obtain ⟨x, f1, f2⟩ := i2 i t (by simpa [capL] using hi)
            exact ⟨x, by simpa using f1, f2⟩
    obtain ⟨k1, k2⟩ := key l cs.toList (by simpa using h1) (fun j s hj => by
      obtain ⟨x, f1, f2⟩ := h2 j s hj
      exact ⟨x, by simpa using f1, f2⟩)
    exact ⟨cs, rfl, by simpa using k1, fun i t hi => by
      obtain ⟨x, f1, f2⟩ := k2 i t hi
      exact ⟨x, by simpa using f1, f2⟩⟩
  · rename_i f' m g
    simp only [Option.some.injEq, Prod.mk.injEq] at h
    obtain ⟨rfl, rfl⟩ := h
    obtain ⟨cs, rfl, h1, h2⟩ := hr
    have hget : ∀ (m o i : Nat) (t : TV), (capF g o m)[i]? = some t → i < m ∧ t = .one (.av (g (o + i))) := by
      intro m
      induction m with
      | zero => intro o i b hb; simp [capF] at hb
      | succ m ih =>
        intro o i b hb
        cases i with
        | zero => simp [capF] at hb; exact ⟨by omega, hb.symm⟩
        | succ i =>
          obtain ⟨k1, k2⟩ := ih (o + 1) i b (by simpa [capF] using hb)
          exact ⟨by omega, by rw [k2]; congr 3; omega⟩
    have hlen : ∀ (m o : Nat), (capF g o m).length = m := by
      intro m
      induction m with
      | zero => intro o; rfl
      | succ m ih => intro o; simp [capF, ih]
    refine ⟨cs, rfl, by rw [hlen, h1], fun i t hi => ?_⟩
    obtain ⟨k1, k2⟩ := hget m 0 i t hi
    obtain ⟨x, f1, f2⟩ := h2 i k1
    rw [Nat.zero_add] at k2
    subst k2
    exact ⟨x, f1, f2⟩
  · cases h

end
end Go.AM
/- The framework AM, part 20: the runs are sound. -/
namespace Go.AM
open Go
/-- What is left to be run, as a condition. -/
def wpIt (P : Program) (S : St → Act → World → Prop) (Qf : Exit → Act → World → Prop) : List It → Exit → Act → World → Prop
  | [] => Qf
  | .code c :: K => Exit.then (c.wp P (wpIt P S Qf K)) (wpIt P S Qf K)
  | .blk id :: K => Exit.inBlock id (wpIt P S Qf K)
  | .ops l all :: K => Exit.then (wpList P all (wpIt P S Qf K) l) (wpIt P S Qf K)
  | .lp J :: K => Exit.then (fun a w => ∃ σ, S σ a w ∧ J σ) (wpIt P S Qf K)

section
variable {N : Nat} {w0 : World} {E A : Nat → Prop} {F : Frm} {T : Nat → TV} {H : Nat → OB} {a : Act} {w : World} {own : Own} {rt : Rt} {P : Program} {o : Oper} {n : Nat}
variable {S : St → Act → World → Prop} {Qf : Exit → Act → World → Prop}

theorem wpIt_ret : ∀ {K : List It}, Qf .ret a w → wpIt P S Qf K .ret a w
  | [], h => h
  | .code _ :: K, h => wpIt_ret (K := K) h
  | .blk _ :: K, h => wpIt_ret (K := K) h
  | .ops _ _ :: K, h => wpIt_ret (K := K) h
  | .lp _ :: K, h => wpIt_ret (K := K) h

theorem wpIt_exit {id : Nat} : ∀ {K : List It}, hasBlk id K = true → wpIt P S Qf (unw id K) .normal a w → wpIt P S Qf K (.exit id) a w
  | [], h, _ => by cases h
  | .code c :: K, h, h2 => wpIt_exit (K := K) h h2
  | .blk i :: K, h, h2 => by
    simp only [hasBlk, Bool.or_eq_true, Nat.beq_eq] at h
    by_cases e : i = id
    · subst e
      simp only [unw, Nat.beq_refl, cond_true] at h2
      show (if i = i then _ else _)
      rw [if_pos rfl]
      exact h2
    · have e2 : Nat.beq i id = false := by
        cases hb : Nat.beq i id with
        | true => exact absurd (Nat.eq_of_beq_eq_true hb) e
        | false => rfl
      simp only [unw, e2, cond_false] at h2
      show (if id = i then _ else _)
      rw [if_neg (Ne.symm e)]
      exact wpIt_exit (K := K) (h.resolve_left e) h2
  | .ops l all :: K, h, h2 => wpIt_exit (K := K) h h2
  | .lp J :: K, h, h2 => wpIt_exit (K := K) h h2

theorem put_T (σ : St) (d : Option Tmp) (v : TV) (hu : List (Nat × OB)) (m : Nat) : (σ.put d v hu m).T = updT σ.T d v := by
  funext s
  cases d <;> rfl

theorem put_H (σ : St) (d : Option Tmp) (v : TV) (hu : List (Nat × OB)) (m : Nat) : (σ.put d v hu m).H = updH σ.H hu := by
  funext k
  simp only [St.put, St.H, updH, lk_append]

theorem dOk_lt {d : Option Tmp} (h : dOk N d = true) : ∀ s, d = some s → s < N := by
  rintro s rfl
  simpa [dOk, Nat.blt_eq] using h

theorem least {p : Nat → Prop} (h : ∃ m, p m) : ∃ m, p m ∧ ∀ k, p k → m ≤ k := by
  obtain ⟨m, hm⟩ := h
  induction m using Nat.strongRecOn with
  | _ m ih =>
    by_cases h : ∃ k, k < m ∧ p k
    · obtain ⟨k, hk, hp⟩ := h; exact ih k hk hp
    · exact ⟨m, hm, fun k hk => Nat.le_of_not_lt (fun e => h ⟨k, e, hk⟩)⟩

/-- A loop, with an invariant that speaks of more than the state. -/
theorem wp_loop_fam {c : Code} {X : Type} (I : X → Act → World → Prop) (μ : X → Nat) {Q : Exit → Act → World → Prop} (h0 : ∃ x, I x a w)
    (round : ∀ x a w, I x a w → c.wp P (Exit.then (fun a' w' => ∃ x', I x' a' w' ∧ μ x' < μ x) Q) a w) : (Code.loop c).wp P Q a w := by
  classical
  let ex : Act → World → Nat → Prop := fun a w m => ∃ x, I x a w ∧ μ x = m
  let ν : Act → World → Nat := fun a w => if h : ∃ m, ex a w m then Classical.choose (least h) else 0
  refine wp_loop (fun a w => ∃ x, I x a w) ν h0 (fun a w hx => ?_)
  have hex : ∃ m, ex a w m := let ⟨x, hx⟩ := hx; ⟨μ x, x, hx, rfl⟩
  obtain ⟨⟨x, h1, h2⟩, _⟩ := Classical.choose_spec (least hex)
  refine wp_mono (round x a w h1) (fun e a' w' hq => ?_)
  cases e with
  | normal =>
    obtain ⟨x', g1, g2⟩ := hq
    refine ⟨⟨x', g1⟩, ?_⟩
    have hex' : ∃ m, ex a' w' m := ⟨μ x', x', g1, rfl⟩
    have e1 : ν a w = Classical.choose (least hex) := dif_pos hex
    have e2 : ν a' w' = Classical.choose (least hex') := dif_pos hex'
    rw [e1, e2]
    exact Nat.lt_of_le_of_lt ((Classical.choose_spec (least hex')).2 _ ⟨x', g1, rfl⟩) (by rw [← h2]; exact g2)
  | _ => exact hq

/-! ### Guards -/

def uncT (T : Nat → TV) : Nat → TV := fun s => match T s with
  | .cnd b c => if b = true then c.tv else .junk
  | t => t

theorem relC_tv {c : CV} {v : Value} (h : RelC w own rt H c v) : RelT w own rt H c.tv v := by
  cases c <;> exact h
theorem mn_tv {c : CV} {k : Nat} (h : c.tv.mn k) : c.mn k := by
  cases c <;> exact h
theorem cndOf_true {t : TV} {v : Value} (h : RelT w own rt H t v) : RelT w own rt H (cndOf true t) v := by
  unfold cndOf
  split
  · exact ⟨fun _ => h, (fun e => by cases e)⟩
  · exact ⟨fun _ => h, (fun e => by cases e)⟩
  · trivial
theorem cndOf_false {t : TV} : RelT w own rt H (cndOf false t) undef := by
  unfold cndOf
  split
  · exact ⟨(fun e => by cases e), fun _ => rfl⟩
  · exact ⟨(fun e => by cases e), fun _ => rfl⟩
  · trivial
theorem cndOf_mn {b : Bool} {t : TV} {k : Nat} (h : (cndOf b t).mn k) : t.mn k := by
  unfold cndOf at h
  split at h
  · exact h
  · exact h
  · exact h.elim
theorem avL_get : ∀ {l : List AV} {j : Nat} {s : SV}, (avL l)[j]? = some s → ∃ a, l[j]? = some a ∧ s = .av a
  | [], j, s, h => by simp [avL] at h
  | a :: r, 0, s, h => by simp [avL] at h; exact ⟨a, rfl, h.symm⟩
  | a :: r, j + 1, s, h => by
    obtain ⟨x, h1, h2⟩ := avL_get (l := r) (j := j) (s := s) (by simpa [avL] using h)
    exact ⟨x, by simpa using h1, h2⟩
theorem avL_len : ∀ {l : List AV}, (avL l).length = l.length
  | [] => rfl
  | a :: r => by simp [avL, avL_len]
theorem plain_cv {t : AT} (hp : t.cells.all plain = true) {r : Nat} {own' : Own} {v : Value} (h : RelR1 w own r t v) : RelC w own' rt H t.cv v := by
  cases t with
  | one a => exact plain_rd (by simpa [AT.cells] using hp) h
  | agg l =>
    obtain ⟨cs, rfl, h1, h2⟩ := h
    refine ⟨cs, rfl, by rw [h1, avL_len], fun j s hj => ?_⟩
    obtain ⟨a, g1, rfl⟩ := avL_get hj
    obtain ⟨x, f1, f2⟩ := h2 j a g1
    refine ⟨x, f1, plain_rd ?_ f2⟩
    simp only [AT.cells, List.all_eq_true] at hp
    exact hp a (List.mem_of_getElem? g1)
theorem avL_mn {l : List AV} {k : Nat} {s : SV} (hs : s ∈ avL l) : ¬ s.mn k := by
  obtain ⟨j, hj⟩ := List.getElem?_of_mem hs
  obtain ⟨a, _, rfl⟩ := avL_get hj
  exact fun h => h
theorem cv_mn {t : AT} {k : Nat} : ¬ t.cv.mn k := by
  cases t with
  | one a => exact fun h => h
  | agg l => rintro ⟨s, hs, hk⟩; exact avL_mn hs hk
theorem objs_plain (l : List AV) : ∀ (n : Nat), l.all plain = true → objs n l = [] := by
  induction l with
  | nil => intro n _; rfl
  | cons a r ih =>
    intro n h
    simp only [List.all_cons, Bool.and_eq_true] at h
    have := ih (n + 1) h.2
    cases a with
    | sl u nl es m f => simp [plain] at h
    | _ => exact this
theorem objs_noOwn (l : List AV) : ∀ (n : Nat), l.all noOwn = true → objs n l = [] := by
  induction l with
  | nil => intro n _; rfl
  | cons a r ih =>
    intro n h
    simp only [List.all_cons, Bool.and_eq_true] at h
    have := ih (n + 1) h.2
    cases a with
    | sl u nl es m f => cases u with
      | true => simp [noOwn] at h
      | false => exact this
    | _ => exact this
theorem clAll_plain (l : List AV) : l.all plain = true → clAll l := by
  induction l with
  | nil => intro _; trivial
  | cons a r ih =>
    intro h
    simp only [List.all_cons, Bool.and_eq_true] at h
    have := ih h.2
    cases a with
    | sl u nl es m f => simp [plain] at h
    | _ => exact this

theorem SRf.unc (h : SRf N w0 E F A T H a w own rt) : SRf N w0 E F A (uncT T) H a w own rt := by
  refine ⟨h.toWRf, h.defers, h.size, fun s => ?_, fun s k hk => ?_, h.frz⟩
  · have := h.tmp s
    unfold uncT
    split
    · rename_i b v e
      rw [e] at this
      split
      · rename_i hb; exact relC_tv (this.1 hb)
      · trivial
    · exact this
  · have := h.men s k
    unfold uncT at hk
    split at hk
    · rename_i b v e
      rw [e] at this
      split at hk
      · exact this (mn_tv hk)
      · exact hk.elim
    · exact this hk

theorem opd_unc {x : Operand} (h : cok1 (opd T x)) : opd (uncT T) x = AM.unc (opd T x) := by
  cases x with
  | tmp s =>
    simp only [opd] at h ⊢
    unfold uncT
    cases hT : T s with
    | cnd b v =>
      rw [hT] at h
      have hb : b = true := h
      simp [hb, AM.unc]
    | _ => simp [AM.unc]
  | const v => cases v <;> rfl
  | global g => rfl
  | func f => rfl

theorem unc_mn {t : TV} {k : Nat} (h : (AM.unc t).mn k) : t.mn k := by
  cases t <;> first | exact h | exact mn_tv h

theorem gcond_sound {all : Array Oper} {g : Nat} {want : Bool} {d : Tmp} {t : TV} {gc : Bool} (hd : gdst all g = some d) (ht : RelT w own rt H t (a.tmps.getD d undef)) (hg : gcond want t = some gc) {o : Oper} (ho : o.guard = some (g, want)) :
    Region.wanted o (yielded all a.tmps) = gc := by
  have hy : ∀ b, a.tmps.getD d undef = .bool b → yielded all a.tmps g = some b := fun b e => by
    unfold yielded
    unfold gdst at hd
    rw [hd]
    simp only [Option.bind_some]
    rw [Array.getD_eq_getD_getElem?] at e
    cases hh : a.tmps[d]? with
    | none => rw [hh] at e; simp [undef] at e
    | some v => rw [hh] at e; simp only [Option.getD_some] at e; rw [e]
  have hn : a.tmps.getD d undef = undef → yielded all a.tmps g = none := fun e => by
    unfold yielded
    unfold gdst at hd
    rw [hd]
    simp only [Option.bind_some]
    rw [Array.getD_eq_getD_getElem?] at e
    cases hh : a.tmps[d]? with
    | none => rfl
    | some v => rw [hh] at e; simp only [Option.getD_some] at e; rw [e]; rfl
  unfold Region.wanted
  rw [ho]
  simp only
  unfold gcond at hg
  split at hg
  · rename_i q
    simp only [Option.some.injEq] at hg
    rw [hy q ht, ← hg]
    cases q <;> cases want <;> rfl
  · rename_i b q
    simp only [Option.some.injEq] at hg
    cases b with
    | true => rw [hy q (ht.1 rfl), ← hg]; cases q <;> cases want <;> rfl
    | false => rw [hn (ht.2 rfl), ← hg]; cases want <;> rfl
  · cases hg

theorem cok_mem {ρ : Operand → TV} : ∀ {l : List Operand}, cok ρ l → ∀ x ∈ l, cok1 (ρ x)
  | x :: r, h, y, hy => by
    rcases List.mem_cons.1 hy with rfl | hy
    · exact h.1
    · exact cok_mem h.2 y hy

theorem aop_congr {op : Op} (hs : simpleOp op = true) {ρ ρ' : Operand → TV} (h : ∀ x ∈ op.operands.toList, ρ x = ρ' x) : aop P op ρ H n = aop P op ρ' H n := by
  cases op <;> simp only [simpleOp, Bool.false_eq_true] at hs
  case call c =>
    cases hc : c.callee with
    | builtin b =>
      rw [hc] at hs
      cases b <;> simp only [Bool.false_eq_true] at hs
      have ha : ∀ x ∈ c.args.toList, ρ x = ρ' x := fun x hx => h x (by simp [Op.operands, Call.operands, hc] at hx ⊢; exact hx)
      simp only [aop, hc]
      split
      · rename_i x t e1 e2 e3
        rw [ha x (by rw [e2]; simp)]
      · rename_i e1 _ _; cases e1
      · rename_i e1 _; cases e1
      · rename_i e1 _; cases e1
      · rfl
    | _ => rw [hc] at hs; simp at hs
  case unOp u t x => simp only [Op.operands] at h; cases u <;> simp [h, aop]
  case makeFunc g first cap =>
    have key : ∀ (l : List Operand), (∀ x ∈ l, ρ x = ρ' x) → cloOps ρ l = cloOps ρ' l := by
      intro l
      induction l with
      | nil => intro _; rfl
      | cons x r ih => intro h; simp only [cloOps, h x (by simp), ih (fun y hy => h y (by simp [hy]))]
    simp only [aop, key cap.toList (fun x hx => h x (by simp [Op.operands] at hx ⊢; exact .inr hx))]
  case slice t x lo hi mx =>
    cases mx with
    | some m => cases hs
    | none =>
      have key : ∀ (lo : Option Operand), (∀ y, lo = some y → ρ y = ρ' y) → optI ρ lo = optI ρ' lo := by
        intro lo h
        cases lo with
        | none => rfl
        | some y => simp only [optI, h y rfl]
      simp only [aop, h x (by simp [Op.operands]), key lo (fun y hy => h y (by subst hy; simp [Op.operands])), key hi (fun y hy => h y (by subst hy; simp [Op.operands]))]
  all_goals simp only [Op.operands] at h
  all_goals simp [h, aop, conv]

theorem pure_simple (h : SRf N w0 E F A T H a w own rt) (hs : simpleOp o.op = true) (hok : (aop P o.op (opd T) H n).ok) : Pure1 P o a w own rt H (aop P o.op (opd T) H n).v := by
  cases hop : o.op with
  | move x => rw [← hop]; exact pure_move h (.inl hop)
  | pick c x y => rw [← hop]; exact pure_pick h hop hok
  | load t x => rw [← hop]; exact pure_load h hop hok
  | nilCheck x => rw [← hop]; exact pure_nilCheck h hop hok
  | binOp op t x y yt => rw [← hop]; exact pure_binOp h hop hok
  | unOp op t x => rw [← hop]; exact pure_unOp h hop hok
  | convert s d x => rw [← hop]; exact pure_convert h hop hok
  | fieldAddr t x i => rw [← hop]; exact pure_fieldAddr h hop hok
  | indexAddr t x y => rw [← hop]; exact pure_indexAddr h hop hok
  | index t x y => rw [← hop]; exact pure_index h hop hok
  | makeFunc g first cap => rw [← hop]; exact pure_makeFunc h hop hok
  | slice t x lo hi mx =>
    cases mx with
    | some m => rw [hop] at hs; cases hs
    | none => rw [← hop]; exact pure_slice h hop hok
  | call c =>
    rw [← hop]
    have hok' := hok
    rw [hop] at hok' hs
    simp only [aop] at hok'
    split at hok'
    · rename_i x t e1 e2 e3
      exact pure_len h hop e1 e2 e3 hok
    · rename_i e1 _ _; simp [simpleOp, e1] at hs
    · rename_i e1 _; simp [simpleOp, e1] at hs
    · rename_i e1 _; simp [simpleOp, e1] at hs
    · exact hok'.elim
  | _ => rw [hop] at hs; simp [simpleOp] at hs

theorem guard_pure (h : SRf N w0 E F A T H a w own rt) (hs : simpleOp o.op = true) (hc : cok (opd T) (coks o.op)) (hok : (aop P o.op (gro o.op (opd T)) H n).ok) : Pure1 P o a w own rt H (aop P o.op (gro o.op (opd T)) H n).v := by
  by_cases hp : ∃ c x y, o.op = .pick c x y
  · obtain ⟨c, x, y, e⟩ := hp
    have e2 : gro o.op (opd T) = opd T := by rw [e]; rfl
    rw [e2] at hok ⊢
    exact pure_pick h e hok
  · have e2 : gro o.op (opd T) = fun x => AM.unc (opd T x) := by
      cases hop : o.op <;> first | rfl | exact absurd ⟨_, _, _, hop⟩ hp
    have e3 : coks o.op = o.op.operands.toList := by
      cases hop : o.op <;> first | rfl | exact absurd ⟨_, _, _, hop⟩ hp
    rw [e3] at hc
    rw [e2] at hok ⊢
    have hcong : aop P o.op (opd (uncT T)) H n = aop P o.op (fun x => AM.unc (opd T x)) H n := aop_congr hs (fun x hx => opd_unc (cok_mem hc x hx))
    rw [← hcong] at hok ⊢
    obtain ⟨v, h3, h4, h5⟩ := pure_simple h.unc hs hok
    exact ⟨v, h3, h4, h5⟩
theorem gro_mn {op : Op} {ρ : Operand → TV} {x : Operand} {k : Nat} (h : (gro op ρ x).mn k) : (ρ x).mn k := by
  cases op <;> first | exact h | exact unc_mn h
theorem coks_sub {op : Op} {x : Operand} (h : x ∈ coks op) : x ∈ op.operands.toList := by
  cases op <;> first | exact h | simp [coks] at h
theorem gro_congr {op : Op} {ρ ρ' : Operand → TV} {x : Operand} (h : ρ x = ρ' x) : gro op ρ x = gro op ρ' x := by
  cases op <;> simp only [gro, h]
theorem inst1_av {bw : Bool} {k : Nat} {a : AV} (h : plain a = true ∨ (bw = false ∧ noOwn a = true)) : inst1 bw k a = .av a := by
  cases a with
  | sl u nl es m f =>
    cases u with
    | true => rcases h with h | h <;> simp [plain, noOwn] at h
    | false =>
      rcases h with h | h
      · simp [plain] at h
      · simp [inst1, h.1]
  | _ =>
    rcases h with h | h
    · simp [inst1, h]
    · simp [inst1, h.1]
theorem instL_av {bw : Bool} : ∀ {l : List AV} {k : Nat}, (∀ a ∈ l, plain a = true ∨ (bw = false ∧ noOwn a = true)) → instL bw k l = avL l
  | [], k, h => rfl
  | a :: r, k, h => by
    simp only [instL, avL]
    rw [inst1_av (h a (by simp)), instL_av (fun x hx => h x (by simp [hx]))]
theorem gPl_mem {bw : Bool} {t : AT} (h : gPl bw t = true) : ∀ a ∈ t.cells, plain a = true ∨ (bw = false ∧ noOwn a = true) := by
  intro a ha
  unfold gPl at h
  simp only [Bool.or_eq_true, Bool.and_eq_true, List.all_eq_true, Bool.not_eq_true'] at h
  rcases h with h | ⟨h1, h2⟩
  · exact .inl (h a ha)
  · exact .inr ⟨h1, h2 a ha⟩
theorem instA_cv {bw : Bool} {k : Nat} {t : AT} (h : gPl bw t = true) : instA bw k t = t.cv := by
  cases t with
  | one a => simp only [instA, AT.cv]; rw [inst1_av (gPl_mem h a (by simp [AT.cells]))]
  | agg l => exact congrArg CV.agg (instL_av (l := l) (gPl_mem h))
theorem tv_relC {c : CV} {v : Value} (h : RelT w own rt H c.tv v) : RelC w own rt H c v := by
  cases c with
  | one s => exact h
  | agg l => exact h
/-- The state behind a call under a guard that held. -/
theorem ret_cnd {w' : World} (h : SRf N w0 E F A T H a w own rt) {b : AT} (hA : ∀ k, n ≤ k → k ≤ n + b.cells.length → ¬ A k) {own0 : Own} {bw : Bool} (hown0 : bw = false → own0 = own) {v : Value} (hg : Gives w own0 w' (.val b) v) (hp : gPl bw b = true) {d : Option Tmp} (hd : ∀ s, d = some s → s < N) :
    ∃ A' own'' rt'', SRf N w0 E F A' (updT T d (.cnd true b.cv)) H (a.put d v) w' own'' rt'' ∧ ∀ k, A' k → A k ∨ (n < k ∧ k ≤ n + b.cells.length) := by
  have hp' := hp
  unfold gPl at hp'
  simp only [Bool.or_eq_true, Bool.and_eq_true, Bool.not_eq_true'] at hp'
  have hu : objs (n + 1) (RV.val b).cells = [] := by
    rcases hp' with h | h
    · exact objs_plain _ _ h
    · exact objs_noOwn _ _ h.2
  obtain ⟨A', own'', rt'', q1, q2⟩ := ret_sound h (r := .val b) hA hown0 hg (fun e => by
    rcases hp' with h | h
    · exact clAll_plain _ h
    · rw [h.1] at e; cases e) (d := d) hd
  rw [hu] at q1
  have q3 : SRf N w0 E F A' (updT T d (b.cv.tv)) H (a.put d v) w' own'' rt'' := by
    have e : instR bw (n + 1) (.val b) = b.cv.tv := by simp only [instR]; rw [instA_cv hp]
    rw [e] at q1
    exact q1
  refine ⟨A', own'', rt'', ?_, q2⟩
  cases d with
  | none => exact q3
  | some s =>
    refine ⟨q3.toWRf, q3.defers, q3.size, fun s' => ?_, fun s' k hk => ?_, q3.frz⟩
    · have := q3.tmp s'
      by_cases e : s' = s
      · subst e
        simp only [updT, if_true] at this ⊢
        exact ⟨fun _ => tv_relC this, fun e => by cases e⟩
      · simp only [updT, if_neg (fun h => e (Eq.symm h))] at this ⊢
        exact this
    · by_cases e : s' = s
      · subst e
        simp only [updT, if_true] at hk
        exact (cv_mn hk).elim
      · have := q3.men s' k
        simp only [updT, if_neg (fun h => e (Eq.symm h))] at hk this
        exact this hk
end
end Go.AM
/- The framework AM, part M: a part of an object is replaced in place. -/
namespace Go.AM
open Go
theorem hdr_nil (w : World) (a : AV) (v : Value) : hdr w a v [] = some v := by cases a <;> rfl

section
variable {w w' : World} {own own' : Own} {k : Root}

theorem ow_putA {x : AV} {v0 : Value} (h0 : ∀ b o, own b = none → w.heap[b]? = some o → own' b = none ∧ w'.heap[b]? = some o) : ∀ (p : Path) (a : AV) (p0 : Path) (v : Value), a.okp p → hdr w a v p = some v0 → Ow w own k a p0 v → Ow w' own' k x (p0 ++ p) v0 →
    (∀ b o q, own b = some (k, p0 ++ q) → ¬ p <+: q → w.heap[b]? = some o → own' b = some (k, p0 ++ q) ∧ w'.heap[b]? = some o) → Ow w' own' k (a.putA p x) p0 v := by
  intro p
  induction p with
  | nil =>
    intro a p0 v hok hh how hx _
    rw [hdr_nil] at hh
    cases hh
    have : a.putA [] x = x := by cases a <;> rfl
    rw [this]
    simpa using hx
  | cons ij p ih =>
    obtain ⟨i, j⟩ := ij
    intro a p0 v hok hh how hx hk
    cases a with
    | sl u nl es n f =>
      cases u with
      | false => cases hok
      | true =>
        obtain ⟨hi, hj, hok⟩ := hok
        rcases how with ⟨rfl, _⟩ | ⟨b, cap, c, T, rfl, hnl, ho, hb, h2, h3, h4, h5⟩
        · omega
        · have hb' := hk b _ [] (by simpa using ho) (by simp) hb
          refine .inr ⟨b, cap, c, T, rfl, hnl, by simpa using hb'.1, hb'.2, h2, h3, h4, fun i' hi' j' hj' => ?_⟩
          obtain ⟨y, hy, hr⟩ := h5 i' hi' j' hj'
          refine ⟨y, hy, ?_⟩
          by_cases e : i' = i ∧ j' = j
          · obtain ⟨rfl, rfl⟩ := e
            simp only [and_self, if_true]
            simp only [AM.hdr, hb, Nat.zero_add] at hh
            simp [hy] at hh
            refine ih (f i' j') _ y hok hh hr (by simpa using hx) (fun b o q e1 e2 e3 => ?_)
            have := hk b o ((i', j') :: q) (by simpa using e1) (fun hp => e2 ((List.cons_prefix_cons.1 hp).2)) e3
            simpa using this
          · dsimp only
            rw [if_neg e]
            refine Ow.mono h0 _ _ _ _ (fun b o q e1 e2 => ?_) hr
            have := hk b o ((i', j') :: q) (by simpa using e1) (fun hp => e (by
              have := (List.cons_prefix_cons.1 hp).1
              simp only [Prod.mk.injEq] at this
              exact ⟨this.1.symm, this.2.symm⟩)) e2
            simpa using this
    | _ => cases hok

theorem okp_putA {x : AV} : ∀ (p q : Path) (a : AV), a.okp p → q.length ≤ p.length → (a.putA p x).okp q → a.okp q ∧ (x.es = (a.at p).es → ((a.putA p x).at q).es = (a.at q).es)
  | [], [], a, h, _, hq => by
    have e : a.putA [] x = x := by cases a <;> rfl
    have e2 : a.at [] = a := by cases a <;> rfl
    have e3 : x.at [] = x := by cases x <;> rfl
    rw [e, e2, e3]
    exact ⟨h, fun h => h⟩
  | [], y :: q, a, _, hl, _ => by simp at hl
  | (i, j) :: p, q, a, h, hl, hq => by
    cases a with
    | sl u nl es n f =>
      cases u with
      | false => cases h
      | true =>
        cases q with
        | nil => exact ⟨trivial, fun _ => rfl⟩
        | cons y q =>
          obtain ⟨i', j'⟩ := y
          obtain ⟨h1, h2, h3⟩ := h
          obtain ⟨g1, g2, g3⟩ := hq
          by_cases e : i' = i ∧ j' = j
          · obtain ⟨rfl, rfl⟩ := e
            simp only [and_self, if_true] at g3
            obtain ⟨k1, k2⟩ := okp_putA p q _ h3 (by simpa using hl) g3
            refine ⟨⟨g1, g2, k1⟩, fun hx => ?_⟩
            have := k2 hx
            simpa [AV.putA, AV.at] using this
          · simp only [if_neg e] at g3
            refine ⟨⟨g1, g2, g3⟩, fun hx => ?_⟩
            simp only [AV.putA, AV.at, if_neg e]
    | _ => cases h

theorem hdr_putA {x : AV} : ∀ (p q : Path) (a : AV) (p0 : Path) (v : Value), a.okp p → q.length ≤ p.length → (a.putA p x).okp q → Ow w own k a p0 v →
    (∀ b o q, own b = some (k, p0 ++ q) → ¬ p <+: q → w.heap[b]? = some o → w'.heap[b]? = some o) → hdr w' (a.putA p x) v q = hdr w a v q
  | p, [], a, p0, v, _, _, _, _, _ => by rw [hdr_nil, hdr_nil]
  | [], y :: q, a, p0, v, _, hl, _, _, _ => by simp at hl
  | (i, j) :: p, (i', j') :: q, a, p0, v, h, hl, hq, how, hk => by
    cases a with
    | sl u nl es n f =>
      cases u with
      | false => cases h
      | true =>
        obtain ⟨h1, h2, h3⟩ := h
        obtain ⟨g1, g2, g3⟩ := hq
        rcases how with ⟨rfl, _⟩ | ⟨b, cap, c, T, rfl, hnl, ho, hb, e2, e3, e4, e5⟩
        · omega
        · obtain ⟨y, hy, hr⟩ := e5 i' g1 j' g2
          have hb' := hk b _ [] (by simpa using ho) (by simp) hb
          simp only [AV.putA, AM.hdr, hb, hb', Nat.zero_add, hy, Option.bind_some]
          dsimp only at g3
          by_cases e : i' = i ∧ j' = j
          · obtain ⟨rfl, rfl⟩ := e
            simp only [and_self, if_true] at g3 ⊢
            exact hdr_putA p q _ _ _ h3 (by simpa using hl) g3 hr (fun b o q e1 e2 e3 => hk b o ((i', j') :: q) (by simpa using e1) (fun hp => e2 ((List.cons_prefix_cons.1 hp).2)) e3)
          · simp only [if_neg e] at g3 ⊢
            exact Ow.hdr_eq q _ _ _ g3 hr (fun b o q e1 e2 => hk b o ((i', j') :: q) (by simpa using e1) (fun hp => e (by
              have := (List.cons_prefix_cons.1 hp).1
              simp only [Prod.mk.injEq] at this
              exact ⟨this.1.symm, this.2.symm⟩)) e2)
    | _ => cases h

/-- What stands at the place k, p stands at root 1 for the callee; what else is owned is another's. -/
def subOwn (own : Own) (k : Nat) (p : Path) : Own := fun c =>
  match own c with
  | none => none
  | some (k', q) => if k' = k ∧ p <+: q then some (1, q.drop p.length) else some (0, [])

open Classical in
noncomputable def backOwn (own own1 : Own) (k : Nat) (p : Path) (m : Nat) : Own := fun c =>
  if c < m ∧ ∀ q, own c ≠ some (k, p ++ q) then own c
  else match own1 c with
    | some (1, q) => some (k, p ++ q)
    | _ => none

theorem subOwn_in {c : Nat} {k : Nat} {p q : Path} (h : own c = some (k, p ++ q)) : subOwn own k p c = some (1, q) := by
  have : p <+: p ++ q := List.prefix_append p q
  simp [subOwn, h]
theorem subOwn_out {c : Nat} {k k' : Nat} {p q : Path} (h : own c = some (k', q)) (hn : ∀ q, own c ≠ some (k, p ++ q)) : subOwn own k p c = some (0, []) := by
  have : ¬ (k' = k ∧ p <+: q) := by
    rintro ⟨rfl, r, rfl⟩
    exact hn r h
  simp only [subOwn, h, if_neg this]
theorem subOwn_none {c : Nat} {k : Nat} {p : Path} (h : own c = none) : subOwn own k p c = none := by simp [subOwn, h]
theorem subOwn_one {c : Nat} {k : Nat} {p q : Path} (h : subOwn own k p c = some (1, q)) : own c = some (k, p ++ q) := by
  simp only [subOwn] at h
  split at h
  · cases h
  · rename_i k' q' e
    split at h
    · rename_i hp
      obtain ⟨rfl, r, rfl⟩ := hp
      simp at h
      rw [e, h]
    · cases h

variable {N : Nat} {w0 : World} {E A : Nat → Prop} {F : Frm} {H : Nat → OB} {rt : Rt}

theorem mut_sound (h : WRf w0 E F A H w own rt) {k : Nat} {p : Path} {x : AV} {i : Int} {v0 v : Value} (hl : (H k).a.okp p) (hh : hdr w (H k).a (rt k) p = some v0) (g : GivesM w (subOwn own k p) w' x i v0 v) (hes : x.es = ((H k).a.at p).es) :
    ∃ own', WRf w0 E F A (updH H [(k, ⟨(H k).a.putA p x, bump (H k).vs (p.length + 1)⟩)]) w' own' rt ∧ (∀ b o, own b = none → w.heap[b]? = some o → own' b = none ∧ w'.heap[b]? = some o) ∧
      ∀ k', Over w own rt H w' own' rt (updH H [(k, ⟨(H k).a.putA p x, bump (H k).vs (p.length + 1)⟩)]) k' := by
  obtain ⟨hkeep, own1, d1, n1, f1, s1, ow1, _, _⟩ := g
  have hk0 : k ≠ 0 := by
    intro e
    subst e
    rw [h.frn0.1] at hl
    cases p <;> exact hl
  have hAk : A k := by
    by_cases e : A k
    · exact e
    · rw [h.dead k e] at hl
      exfalso
      cases p <;> exact hl
  have hlt : ∀ b y, own b = some y → b < w.heap.size := fun b y e => (h.dom b y e).1
  have hblk : ∀ b, b < w.heap.size → (∀ q, own b ≠ some (k, p ++ q)) → w'.heap[b]? = w.heap[b]? := fun b hb hn => hkeep.block b hb (fun ⟨q, e⟩ => hn q (subOwn_one e))
  have hlt' : ∀ (b : Nat) (o : Obj), w.heap[b]? = some o → b < w.heap.size := fun b o e => (Array.getElem?_eq_some_iff.1 e).1
  have hout : ∀ b, b < w.heap.size → (∀ q, own b ≠ some (k, p ++ q)) → backOwn own own1 k p w.heap.size b = own b := fun b hb hn => by
    simp only [backOwn]; rw [if_pos ⟨hb, hn⟩]
  have hone : ∀ b q, own1 b = some (1, q) → backOwn own own1 k p w.heap.size b = some (k, p ++ q) := fun b q e => by
    have hc : ¬ (b < w.heap.size ∧ ∀ q, own b ≠ some (k, p ++ q)) := by
      rintro ⟨hb, hn⟩
      obtain ⟨q0, e0⟩ := s1 b 1 q hb e (by decide)
      exact hn q0 (subOwn_one e0)
    simp only [backOwn]
    rw [if_neg hc, e]
    rfl
  have h0 : ∀ b o, own b = none → w.heap[b]? = some o → backOwn own own1 k p w.heap.size b = none ∧ w'.heap[b]? = some o := fun b o e1 e2 => by
    have hn : ∀ q, own b ≠ some (k, p ++ q) := fun q e => by rw [e1] at e; cases e
    exact ⟨by rw [hout b (hlt' b o e2) hn]; exact e1, by rw [hblk b (hlt' b o e2) hn]; exact e2⟩
  have h1 : ∀ b o, own1 b = none → w'.heap[b]? = some o → backOwn own own1 k p w.heap.size b = none ∧ w'.heap[b]? = some o := fun b o e1 e2 => by
    refine ⟨?_, e2⟩
    by_cases hb : b < w.heap.size ∧ ∀ q, own b ≠ some (k, p ++ q)
    · rw [hout b hb.1 hb.2]
      cases ho : own b with
      | none => rfl
      | some y =>
        have := f1 b (subOwn_out (k' := y.1) (q := y.2) ho hb.2)
        rw [e1] at this; cases this
    · simp only [backOwn]
      rw [if_neg hb, e1]
  have hoff : ∀ b o k' q, own b = some (k', q) → ¬ (k' = k ∧ p <+: q) → w.heap[b]? = some o → backOwn own own1 k p w.heap.size b = some (k', q) ∧ w'.heap[b]? = some o := fun b o k' q e1 e2 e3 => by
    have hn : ∀ q, own b ≠ some (k, p ++ q) := fun q e => by
      rw [e1] at e
      cases e
      exact e2 ⟨rfl, List.prefix_append _ _⟩
    exact ⟨by rw [hout b (hlt' b o e3) hn]; exact e1, by rw [hblk b (hlt' b o e3) hn]; exact e3⟩
  have hHk : updH H [(k, ⟨(H k).a.putA p x, bump (H k).vs (p.length + 1)⟩)] k = ⟨(H k).a.putA p x, bump (H k).vs (p.length + 1)⟩ := updH_self _ _ _ _
  have hHo : ∀ k', k' ≠ k → updH H [(k, ⟨(H k).a.putA p x, bump (H k).vs (p.length + 1)⟩)] k' = H k' := fun k' e => by simp [updH, lk, Ne.symm e]
  refine ⟨backOwn own own1 k p w.heap.size, ⟨⟨hkeep.os.trans h.keep.os, hkeep.tape.trans h.keep.tape, hkeep.output.trans h.keep.output, Nat.le_trans h.keep.size hkeep.size, fun b hb he => ?_⟩, fun b y e => ?_, fun k' => ?_, fun k' hk => ?_, fun b k' q e => ?_, fun b hb => ?_, ?_⟩, h0, fun k' => ?_⟩
  · rw [hblk b (Nat.lt_of_lt_of_le hb h.keep.size) (fun q e => ?_)]
    · exact h.keep.block b hb he
    · rcases (h.dom b _ e).2 with e' | e' | e'
      · omega
      · exact he e'
      · have := h.frn b e'; rw [e] at this; exact hk0 (Prod.mk.inj (Option.some.inj this)).1
  · by_cases hb : b < w.heap.size ∧ ∀ q, own b ≠ some (k, p ++ q)
    · rw [hout b hb.1 hb.2] at e
      exact ⟨Nat.lt_of_lt_of_le hb.1 hkeep.size, (h.dom b y e).2⟩
    · simp only [backOwn] at e
      rw [if_neg hb] at e
      by_cases hb2 : b < w.heap.size
      · refine ⟨Nat.lt_of_lt_of_le hb2 hkeep.size, ?_⟩
        have : ∃ q, own b = some (k, p ++ q) := by
          by_cases h : ∃ q, own b = some (k, p ++ q)
          · exact h
          · exact absurd ⟨hb2, fun q e => h ⟨q, e⟩⟩ hb
        obtain ⟨q, e'⟩ := this
        exact (h.dom b _ e').2
      · split at e
        · rename_i q e1
          exact ⟨d1 b _ e1, .inl (by have := h.keep.size; omega)⟩
        · cases e
  · by_cases ek : k' = k
    · subst ek
      rw [hHk]
      refine ow_putA h0 p _ [] _ hl hh (h.obj k') ?_ (fun b o q e1 e2 e3 => ?_)
      · exact Ow.mono h1 _ _ _ _ (fun b o q e1 e2 => ⟨hone b q (by simpa using e1), e2⟩) ow1
      · exact hoff b o k' q (by simpa using e1) (fun h => e2 h.2) e3
    · rw [hHo k' ek]
      exact Ow.mono h0 _ _ _ _ (fun b o q e1 e2 => hoff b o k' _ e1 (fun h => ek h.1) e2) (h.obj k')
  · have ek : k' ≠ k := fun e => hk (e ▸ hAk)
    rw [hHo k' ek]
    exact h.dead k' hk
  · by_cases hb : b < w.heap.size ∧ ∀ q, own b ≠ some (k, p ++ q)
    · rw [hout b hb.1 hb.2] at e
      exact h.owned b k' q e
    · simp only [backOwn] at e
      rw [if_neg hb] at e
      split at e
      · cases e; exact hAk
      · cases e
  · have e := h.frn b hb
    rw [hout b (hlt b _ e) (fun q e2 => by rw [e] at e2; exact hk0 (Prod.mk.inj (Option.some.inj e2)).1.symm)]
    exact e
  · rw [hHo 0 (fun e => hk0 e.symm)]
    exact h.frn0
  · by_cases ek : k' = k
    · subst ek
      refine ⟨by rw [hHk]; exact fun d => by rw [gl_bump]; split <;> omega, fun q vs hvs hq => ?_⟩
      rw [hHk] at hq ⊢
      have hlen : q.length ≤ p.length := by
        by_cases e : q.length ≤ p.length
        · exact e
        · exfalso
          have h3 := hvs (p.length + 1)
          rw [hq.2, gl_verTake _ _ _ (by omega), gl_bump, if_pos rfl] at h3
          omega
      obtain ⟨g1, g2⟩ := okp_putA p q _ hl hlen hq.1
      refine ⟨⟨g1, ?_⟩, g2 hes, fun u hu => ?_⟩
      · rw [hq.2]
        exact verTake_bump _ _ _ (by omega)
      · rw [hdr_putA (own := own) (k := k') p q _ [] _ hl hlen hq.1 (h.obj k') (fun b o q e1 e2 e3 => (hoff b o k' q (by simpa using e1) (fun h => e2 h.2) e3).2)]
        exact hu
    · exact Over.same (h.obj k') (hHo k' ek) rfl (fun b o q e1 e2 => (hoff b o k' q e1 (fun h => ek h.1) e2).2)

end
end Go.AM
/- The framework AM, part 21: the runs are sound. -/
namespace Go.AM
open Go
section
variable {N : Nat} {w0 : World} {E : Nat → Prop} {F : Frm} {σ : St} {a : Act} {w : World} {P : Program} {o : Oper} {all : Array Oper} {r : List Oper} {Q : Exit → Act → World → Prop}

theorem isField_ne (h : isField o.op = false) : ∀ t x i, o.op ≠ .field t x i := by
  intro t x i e; rw [e] at h; cases h

theorem sound_op (h : SR N w0 E F σ a w) (hg : o.guard = none) (hf : isField o.op = false) (hd : dOk N o.dst = true) (hok : (aop P o.op σ.ρ σ.H σ.n).ok)
    (next : ∀ a' w', SR N w0 E F (σ.put o.dst (aop P o.op σ.ρ σ.H σ.n).v (aop P o.op σ.ρ σ.H σ.n).hu (σ.n + 1)) a' w' → wpList P all Q r a' w') : wpList P all Q (o :: r) a w := by
  obtain ⟨A, own, rt, hs, hA⟩ := h
  obtain ⟨v, w', own', rt', hrun, hs'⟩ := did_op hs (dOk_lt hd) (hA _ (Nat.le_refl _)) (isField_ne hf) hok
  have hw : Region.wanted o (yielded all a.tmps) = true := by unfold Region.wanted; rw [hg]
  have hn : SR N w0 E F (σ.put o.dst (aop P o.op σ.ρ σ.H σ.n).v (aop P o.op σ.ρ σ.H σ.n).hu (σ.n + 1)) (a.put o.dst v) w' :=
    ⟨_, own', rt', by rw [put_T, put_H]; exact hs', fun k hk e => by
      have hk' : σ.n + 1 ≤ k := hk
      rcases e with e | e
      · exact hA k (by omega) e
      · omega⟩
  simp only [wpList, hw, if_true]
  left
  unfold Oper.wp
  rcases hrun with hrun | ⟨hrun, rfl⟩
  · rw [hrun, Oper.upon_value]; exact next _ _ hn
  · rw [hrun, Oper.upon_skip]; exact next _ _ hn

theorem sound_guard {g : Nat} {want gc : Bool} {t : TV} (h : SR N w0 E F σ a w) (hg : o.guard = some (g, want)) (ht : (gdst all g).map σ.T = some t) (hgc : gcond want t = some gc) (hs : simpleOp o.op = true) (hd : dOk N o.dst = true)
    (hok : gc = true → cok σ.ρ (coks o.op) ∧ (aop P o.op (gro o.op σ.ρ) σ.H σ.n).ok)
    (next : ∀ a' w', SR N w0 E F (σ.put o.dst (cndOf gc (aop P o.op (gro o.op σ.ρ) σ.H σ.n).v) [] (σ.n + 1)) a' w' → wpList P all Q r a' w') : wpList P all Q (o :: r) a w := by
  obtain ⟨A, own, rt, hsr, hA⟩ := h
  cases hgd : gdst all g with
  | none => rw [hgd] at ht; cases ht
  | some d =>
    rw [hgd] at ht
    simp only [Option.map_some, Option.some.injEq] at ht
    have hw := gcond_sound (o := o) hgd (by rw [← ht]; exact hsr.tmp d) hgc hg
    have h2 : SRf N w0 E F (fun k => A k ∨ k = σ.n) σ.T σ.H a w own rt := ⟨hsr.toWRf.more _, hsr.defers, hsr.size, hsr.tmp, fun s k hk => .inl (hsr.men s k hk), fun k v e => ⟨.inl (hsr.frz k v e).1, (hsr.frz k v e).2⟩⟩
    have hAn : ∀ k, σ.n + 1 ≤ k → ¬ (A k ∨ k = σ.n) := fun k hk e => by
      rcases e with e | e
      · exact hA k (by omega) e
      · omega
    have hm : ∀ k, (cndOf gc (aop P o.op (gro o.op σ.ρ) σ.H σ.n).v).mn k → A k ∨ k = σ.n := fun k hk => by
      have : (aop P o.op (gro o.op σ.ρ) σ.H σ.n).v.mn k := by
        exact cndOf_mn hk
      rcases aop_mn _ _ _ _ _ this with e | ⟨x, hx⟩
      · exact .inr e
      · exact .inl (opd_men hsr x k (gro_mn hx))
    have fin : ∀ v, RelT w own rt σ.H (cndOf gc (aop P o.op (gro o.op σ.ρ) σ.H σ.n).v) v → SR N w0 E F (σ.put o.dst (cndOf gc (aop P o.op (gro o.op σ.ρ) σ.H σ.n).v) [] (σ.n + 1)) (a.put o.dst v) w := fun v hv =>
      ⟨_, own, rt, by rw [put_T, put_H]; exact h2.put (dOk_lt hd) hv hm, hAn⟩
    simp only [wpList]
    rw [hw]
    cases gc with
    | true =>
      rw [if_pos rfl]
      left
      obtain ⟨hc, hok⟩ := hok rfl
      obtain ⟨v, h3, h4, _⟩ := guard_pure hsr hs hc hok
      unfold Oper.wp
      rw [h3, Oper.upon_value]
      exact next _ _ (fin v (cndOf_true h4))
    | false =>
      rw [if_neg (by simp)]
      exact next _ _ (fin undef cndOf_false)

theorem isCall_spec {f : Operand} {xs : List Operand} (h : isCall o.op = some (f, xs)) : ∃ c, o.op = .call c ∧ c.callee = .value f ∧ c.args.toList = xs := by
  unfold isCall at h
  split at h
  · rename_i c e
    split at h
    · rename_i f' e2
      simp only [Option.some.injEq, Prod.mk.injEq] at h
      exact ⟨c, e, by rw [e2, h.1], h.2⟩
    · cases h
  · cases h

/-- A call that is made. -/
theorem call_made {A : Nat → Prop} {T : Nat → TV} {H : Nat → OB} {own : Own} {rt : Rt} (h : SRf N w0 E F A T H a w own rt) {f : Operand} {xs : List Operand} (hcl : isCall o.op = some (f, xs)) {fid : FuncId} {cap : List TV} (hf : fnOf (opd T f) = some (fid, cap))
    {L : List TV} (hL : L = xs.map (opd T) ++ cap) (hb : (borA H L).1) {R : RV → Prop} (hcon : ACalls P fid (borA H L).2.2 R) {next : Act → World → Prop}
    (hn : ∀ own0 w' v r, ((borA H L).2.1 = false → own0 = own) → R r → Gives w own0 w' r v → next (a.put o.dst v) w') : o.wp P a w next Q := by
  obtain ⟨c, e1, e2, e3⟩ := isCall_spec hcl
  obtain ⟨cs, hv, hcs, hcap⟩ := fnOf_sound hf (opd_rel h f)
  have hargs : c.args = xs.toArray := by rw [← e3]
  have hrun : (execOp a.eval o).run P w = .ok (.enter fid ((xs.map a.eval).toArray ++ cs)) w := by
    have := hcon.enter ((xs.map a.eval).toArray ++ cs) w
    simp [execOp, e1, resolve, e2, hv, Deferred.ofValue, hargs, invoke, this]
  unfold Oper.wp
  rw [hrun, Oper.upon_enter]
  obtain ⟨b1, b2⟩ := borA_sound h L (xs.map a.eval ++ cs.toList) hb (by rw [hL]; simp [hcs]) (fun i t hi => by
    subst hL
    by_cases hlt : i < xs.length
    · rw [List.getElem?_append_left (by simpa using hlt)] at hi
      rw [List.getElem?_append_left (by simpa using hlt)]
      simp only [List.getElem?_map, List.getElem?_eq_getElem hlt, Option.map_some, Option.some.injEq] at hi ⊢
      subst hi
      exact ⟨_, rfl, opd_rel h _⟩
    · rw [List.getElem?_append_right (by simp; omega)] at hi
      rw [List.getElem?_append_right (by simp; omega)]
      simp only [List.length_map] at hi ⊢
      obtain ⟨x, f1, f2⟩ := hcap _ t hi
      exact ⟨x, by simpa using f1, f2⟩)
  have hcalls := hcon.calls (if (borA H L).2.1 = true then (fun _ => none) else own) w ((xs.map a.eval).toArray ++ cs) (fun b hb => by
      split at hb
      · exact absurd rfl hb
      · cases ho : own b with
        | none => exact absurd ho hb
        | some y => exact (h.dom b y ho).1) (by rw [b1, hL]; simp [hcs]) (fun i t hi => by
      obtain ⟨v, f1, f2, f3⟩ := b2 i t hi
      refine ⟨v, by rw [← Array.getElem?_toList]; simpa using f1, ?_⟩
      split
      · exact f3
      · rename_i hne; exact f2 (by simpa using hne))
  refine Calls.mono hcalls (fun e w' he => ?_)
  obtain ⟨v, r, rfl, hr, hg⟩ := he
  exact hn _ w' v r (fun e => by rw [if_neg (by rw [e]; simp)]) hr hg

/-- A call that is made and that writes. -/
theorem call_madeM {A : Nat → Prop} {T : Nat → TV} {H : Nat → OB} {own : Own} {rt : Rt} (h : SRf N w0 E F A T H a w own rt) {f : Operand} {xs : List Operand} (hcl : isCall o.op = some (f, xs)) {fid : FuncId} {cap : List TV} (hf : fnOf (opd T f) = some (fid, cap)) (hd : ∀ s, o.dst = some s → s < N)
    {k : Nat} {p : Path} {vs : List Nat} {l : List TV} (hL : .one (.own k p vs) :: l = xs.map (opd T) ++ cap) (hb : (borA H (.one (.own k p vs) :: l)).1) {x : AV} {i : Int} (hcon : AMut P fid ((H k).a.at p) (borA H l).2.2 x i) (hbw : (borA H l).2.1 = false) (hes : x.es = ((H k).a.at p).es)
    {next : Act → World → Prop}
    (hn : ∀ A' own' rt' w' v, SRf N w0 E F A' (updT T o.dst (.one (.av (.int .i64 i)))) (updH H [(k, ⟨(H k).a.putA p x, bump (H k).vs (p.length + 1)⟩)]) (a.put o.dst v) w' own' rt' → (∀ k, A' k → A k) → next (a.put o.dst v) w') : o.wp P a w next Q := by
  obtain ⟨c, e1, e2, e3⟩ := isCall_spec hcl
  obtain ⟨cs, hv, hcs, hcap⟩ := fnOf_sound hf (opd_rel h f)
  have hargs : c.args = xs.toArray := by rw [← e3]
  have hrun : (execOp a.eval o).run P w = .ok (.enter fid ((xs.map a.eval).toArray ++ cs)) w := by
    have := hcon.enter ((xs.map a.eval).toArray ++ cs) w
    simp [execOp, e1, resolve, e2, hv, Deferred.ofValue, hargs, invoke, this]
  unfold Oper.wp
  rw [hrun, Oper.upon_enter]
  have hrel : ∀ (i : Nat) (t : TV), (TV.one (.own k p vs) :: l)[i]? = some t → ∃ x, (xs.map a.eval ++ cs.toList)[i]? = some x ∧ RelT w own rt H t x := fun i t hi => by
    rw [hL] at hi
    by_cases hlt : i < xs.length
    · rw [List.getElem?_append_left (by simpa using hlt)] at hi
      rw [List.getElem?_append_left (by simpa using hlt)]
      simp only [List.getElem?_map, List.getElem?_eq_getElem hlt, Option.map_some, Option.some.injEq] at hi ⊢
      subst hi
      exact ⟨_, rfl, opd_rel h _⟩
    · rw [List.getElem?_append_right (by simp; omega)] at hi
      rw [List.getElem?_append_right (by simp; omega)]
      simp only [List.length_map] at hi ⊢
      obtain ⟨x, f1, f2⟩ := hcap _ t hi
      exact ⟨x, by simpa using f1, f2⟩
  have hlen : (TV.one (.own k p vs) :: l).length = (xs.map a.eval ++ cs.toList).length := by rw [hL]; simp [hcs]
  obtain ⟨v0, hv0, hr0⟩ := hrel 0 _ rfl
  obtain ⟨vl, hvl⟩ : ∃ vl, xs.map a.eval ++ cs.toList = v0 :: vl := by
    cases hx : xs.map a.eval ++ cs.toList with
    | nil => rw [hx] at hv0; simp at hv0
    | cons y vl => rw [hx] at hv0; simp at hv0; exact ⟨vl, by rw [hv0]⟩
  have hlive : (H k).live p vs := hb.1
  have hh := hr0.2 hlive
  obtain ⟨v1, g1, g2⟩ := live_row h hlive
  rw [hh] at g1
  cases g1
  obtain ⟨b1, b2⟩ := borA_sound h l vl hb.2 (by rw [hvl] at hlen; simpa using hlen.symm) (fun i t hi => by
    obtain ⟨x, f1, f2⟩ := hrel (i + 1) t (by simpa using hi)
    rw [hvl] at f1
    exact ⟨x, by simpa using f1, f2⟩)
  have hsub : ∀ b, subOwn own k p b = none → own b = none := fun b e => by
    cases ho : own b with
    | none => rfl
    | some y =>
      obtain ⟨k', q⟩ := y
      simp only [subOwn, ho] at e
      split at e <;> cases e
  have hcalls := hcon.calls (subOwn own k p) w ((xs.map a.eval).toArray ++ cs) v0 (fun b hb => by
      cases ho : own b with
      | none => exact absurd (subOwn_none ho) hb
      | some y => exact (h.dom b y ho).1)
    (fun b k' q e => by
      simp only [subOwn] at e
      split at e
      · cases e
      · split at e
        · cases e; exact .inr rfl
        · cases e; exact .inl ⟨rfl, rfl⟩)
    (by
      have : ((xs.map a.eval).toArray ++ cs).toList = v0 :: vl := by simpa using hvl
      have h2 := congrArg List.length this
      simp only [Array.length_toList, List.length_cons] at h2
      rw [h2, b1]
      rw [hvl] at hlen
      simpa using hlen.symm)
    (by
      have : ((xs.map a.eval).toArray ++ cs).toList = v0 :: vl := by simpa using hvl
      rw [← Array.getElem?_toList, this]; rfl)
    (Ow.mono (fun b o e1 e2 => ⟨subOwn_none e1, e2⟩) _ _ _ _ (fun b o q e1 e2 => ⟨subOwn_in e1, e2⟩) g2)
    (fun j t hj => by
      obtain ⟨v, f1, f2, f3⟩ := b2 j t hj
      refine ⟨v, ?_, ?_⟩
      · have : ((xs.map a.eval).toArray ++ cs).toList = v0 :: vl := by simpa using hvl
        rw [← Array.getElem?_toList, this]; simpa using f1
      · have := f2 hbw
        cases t with
        | one b => exact Rd.mono (fun b o e1 e2 => ⟨subOwn_none e1, e2⟩) _ _ this
        | agg l =>
          obtain ⟨cs, rfl, g1, g2⟩ := this
          exact ⟨cs, rfl, g1, fun j b hj => let ⟨x, f1, f2⟩ := g2 j b hj; ⟨x, f1, Rd.mono (fun b o e1 e2 => ⟨subOwn_none e1, e2⟩) _ _ f2⟩⟩)
  refine Calls.mono hcalls (fun e w' he => ?_)
  obtain ⟨v, rfl, hg⟩ := he
  obtain ⟨own', q1, q2, q3⟩ := mut_sound h.toWRf hlive.1 hh hg hes
  obtain ⟨_, _, _, _, _, _, _, hv, hin⟩ := hg
  exact hn A own' rt w' v (h.over q1 q2 (fun k _ => q3 k) (fun k e => e) hd (t := .one (.av (.int .i64 i))) ⟨hv, hin⟩ (fun k hk => hk.elim)) (fun k e => e)

/-- New blocks that are nobody's change nothing. -/
theorem SRf.growK {A : Nat → Prop} {T : Nat → TV} {H : Nat → OB} {own : Own} {rt : Rt} (h : SRf N w0 E F A T H a w own rt) {w1 : World} (hk : Keep w (fun _ => False) w1) : SRf N w0 E F A T H a w1 own rt := by
  have hlt : ∀ (b : Nat) (o : Obj), w.heap[b]? = some o → w1.heap[b]? = some o := fun b o e => by
    rw [hk.block b (Array.getElem?_eq_some_iff.1 e).1 (fun h => h)]; exact e
  have hw : WRf w0 E F A H w1 own rt := ⟨⟨hk.os.trans h.keep.os, hk.tape.trans h.keep.tape, hk.output.trans h.keep.output, Nat.le_trans h.keep.size hk.size, fun b h1 h2 => by
      rw [hk.block b (Nat.lt_of_lt_of_le h1 h.keep.size) (fun h => h)]; exact h.keep.block b h1 h2⟩, fun b x e => ⟨Nat.lt_of_lt_of_le (h.dom b x e).1 hk.size, (h.dom b x e).2⟩,
    fun k => Ow.mono (fun b o e1 e2 => ⟨e1, hlt b o e2⟩) _ _ _ _ (fun b o q e1 e2 => ⟨e1, hlt b o e2⟩) (h.obj k), h.dead, h.owned, h.frn, h.frn0⟩
  have := h.over (d := none) hw (fun b o e1 e2 => ⟨e1, hlt b o e2⟩) (fun k _ => Over.same (h.obj k) rfl rfl (fun b o q _ e2 => hlt b o e2)) (fun k hk => hk) (fun s e => nomatch e) (t := .one .junk) (v := undef) trivial (fun k hk => hk.elim)
  exact this

theorem fnOf_noagg {t : TV} {fid : FuncId} {cap : List TV} (h : fnOf t = some (fid, cap)) {l : List SV} (h2 : cap[0]? = some (.agg l)) : False := by
  unfold fnOf at h
  split at h
  · rename_i f l'
    simp only [Option.some.injEq, Prod.mk.injEq] at h
    rw [← h.2] at h2
    cases l' with
    | nil => simp [capL] at h2
    | cons s l' =>
      simp only [capL, List.getElem?_cons_zero, Option.some.injEq] at h2
      cases s <;> cases h2
  · rename_i f m g
    simp only [Option.some.injEq, Prod.mk.injEq] at h
    rw [← h.2] at h2
    cases m with
    | zero => simp [capF] at h2
    | succ m => simp [capF] at h2
  · cases h

/-- A part's call. -/
theorem part_call {A : Nat → Prop} {T : Nat → TV} {H : Nat → OB} {own : Own} {rt : Rt} (h : SRf N w0 E F A T H a w own rt) {k : Nat} {p : Path} {vs : List Nat} (hlive : (H k).live p vs) {v0 : Value} (hr0 : RelT w own rt H (.one (.own k p vs)) v0)
    {g : FuncId} {x : AV} {i i' : Int} (hi : inK .i64 i) (hcon : AMut P g ((H k).a.at p) [.one (.int .i64 i)] x i') (hes : x.es = ((H k).a.at p).es) :
    Calls P g #[v0, .int .i64 i] w fun e w' => ∃ own', e = .returned (.int .i64 i') ∧ inK .i64 i' ∧ SRf N w0 E F A T (updH H [(k, ⟨(H k).a.putA p x, bump (H k).vs (p.length + 1)⟩)]) a w' own' rt ∧ w.heap.size ≤ w'.heap.size ∧
      ∀ b, own b = none → b < w.heap.size → own' b = none ∧ w'.heap[b]? = w.heap[b]? := by
  have hh := hr0.2 hlive
  obtain ⟨v1, g1, g2⟩ := live_row h hlive
  rw [hh] at g1
  cases g1
  have hcalls := hcon.calls (subOwn own k p) w #[v0, .int .i64 i] v0 (fun b hb => by
      cases ho : own b with
      | none => exact absurd (subOwn_none ho) hb
      | some y => exact (h.dom b y ho).1)
    (fun b k' q e => by
      simp only [subOwn] at e
      split at e
      · cases e
      · split at e
        · cases e; exact .inr rfl
        · cases e; exact .inl ⟨rfl, rfl⟩)
    rfl rfl
    (Ow.mono (fun b o e1 e2 => ⟨subOwn_none e1, e2⟩) _ _ _ _ (fun b o q e1 e2 => ⟨subOwn_in e1, e2⟩) g2)
    (fun j t hj => by
      cases j with
      | zero => cases hj; exact ⟨_, rfl, rfl, hi⟩
      | succ j => simp at hj)
  refine Calls.mono hcalls (fun e w' he => ?_)
  obtain ⟨v, rfl, hg⟩ := he
  obtain ⟨own', q1, q2, q3⟩ := mut_sound h.toWRf hlive.1 hh hg hes
  obtain ⟨hk, _, _, _, _, _, _, hv, hin⟩ := hg
  subst hv
  refine ⟨own', rfl, hin, ?_, hk.size, fun b e hb => ?_⟩
  · exact h.over (d := none) q1 q2 (fun k _ => q3 k) (fun k e => e) (fun s e => nomatch e) (t := .one .junk) (v := undef) trivial (fun k hk => hk.elim)
  · have h2 := q2 b _ e (Array.getElem?_eq_getElem hb)
    exact ⟨h2.1, by rw [h2.2, Array.getElem?_eq_getElem hb]⟩

theorem chain_sound {l : List SV} {y : Operand} {cs : Array Value} (ha : a.eval y = .agg cs) {Q : St → Int → Prop} : ∀ (parts : List (FuncId × Nat)) (i : Int) (σ : St) (B : Nat → Prop) (w : World) (own : Own) (rt : Rt) (A : Nat → Prop),
    SRf N w0 E F A σ.T σ.H a w own rt → (∀ k, σ.n ≤ k → ¬ A k) → inK .i64 i → (∀ b, B b → own b = none ∧ b < w.heap.size) → opd σ.T y = .agg l → partsM P l parts i σ Q →
    Chain P cs parts B (.int .i64 i) w fun v w' => ∃ σ' i', Q σ' i' ∧ v = .int .i64 i' ∧ inK .i64 i' ∧ SR N w0 E F σ' a w'
  | [], i, σ, B, w, own, rt, A, h, hA, hi, hB, hy, hp => fun w1 hk => ⟨σ, i, hp, rfl, hi, A, own, rt, h.growK hk, hA⟩
  | (g, c) :: r, i, σ, B, w, own, rt, A, h, hA, hi, hB, hy, hp => fun w1 hk v hv => by
    have h1 := h.growK hk
    simp only [partsM] at hp
    split at hp
    case h_2 => exact hp.elim
    rename_i o p vs el
    obtain ⟨hl, x, i', hcon, hes, hp⟩ := hp
    have hr := opd_rel h1 y
    rw [hy, ha] at hr
    obtain ⟨cs', e1, e2, e3⟩ := hr
    cases e1
    have hlc : l[c]? = some (.own o p vs) := by
      rw [gl_eq, List.getD_eq_getElem?_getD] at el
      cases hc : l[c]? with
      | none => rw [hc] at el; cases el
      | some s => rw [hc] at el; rw [← el]; rfl
    obtain ⟨v', f1, f2⟩ := e3 c _ hlc
    rw [hv] at f1
    cases f1
    refine Calls.mono (part_call h1 hl (v0 := v) f2 hi hcon hes) (fun e w' he => ?_)
    obtain ⟨own', rfl, hin, hs, hsz, hkeep⟩ := he
    have hB1 : ∀ b, (B b ∨ (w.heap.size ≤ b ∧ b < w1.heap.size)) → own b = none ∧ b < w1.heap.size := fun b hb => by
      rcases hb with hb | hb
      · exact ⟨(hB b hb).1, Nat.lt_of_lt_of_le (hB b hb).2 hk.size⟩
      · refine ⟨?_, hb.2⟩
        cases ho : own b with
        | none => rfl
        | some y => have := (h.dom b y ho).1; omega
    refine ⟨_, rfl, hsz, fun b hb => (hkeep b (hB1 b hb).1 (hB1 b hb).2).2, ?_⟩
    have hs2 : SRf N w0 E F A (σ.put none (.one .junk) [(o, ⟨(σ.H o).a.putA p x, bump (σ.H o).vs (p.length + 1)⟩)] (σ.n + 1)).T (σ.put none (.one .junk) [(o, ⟨(σ.H o).a.putA p x, bump (σ.H o).vs (p.length + 1)⟩)] (σ.n + 1)).H a w' own' rt := by
      rw [put_T, put_H]; exact hs
    exact chain_sound ha r i' (σ.put none (.one .junk) [(o, ⟨(σ.H o).a.putA p x, bump (σ.H o).vs (p.length + 1)⟩)] (σ.n + 1)) _ w' own' rt A hs2 (fun k hk => hA k (by
      have hk' : σ.n + 1 ≤ k := hk
      omega)) hin (fun b hb => ⟨(hkeep b (hB1 b hb).1 (hB1 b hb).2).1, Nat.lt_of_lt_of_le (hB1 b hb).2 hsz⟩) hy hp

theorem new_own' {w' : World} {own' : Own} {rt' : Rt} {H' : Nat → OB} {n : Nat} {x : AV} {v : Value} (hH : H' n = ⟨x, []⟩) (hrt : rt' n = v) : RelT w' own' rt' H' (.one (.own n [] [0])) v :=
  ⟨by rw [hH]; exact vle0, fun _ => by rw [hdr_nil, hrt]⟩
/-- The argument stands at object n, its value is v0; the call's result takes its place. -/
theorem take_sound {A : Nat → Prop} {H : Nat → OB} {own : Own} {rt : Rt} {w' : World} {n : Nat} {x : AV} {v : Value} (h : WRf w0 E F A H w own rt) (hA : A n) (n0 : n ≠ 0) (hH : H n = .dead) (g : GivesT w (subOwn own n []) w' x v) :
    ∃ own' rt', rt' n = v ∧ WRf w0 E F A (updH H [(n, ⟨x, []⟩)]) w' own' rt' ∧ (∀ b o, own b = none → w.heap[b]? = some o → own' b = none ∧ w'.heap[b]? = some o) ∧ ∀ k', k' ≠ n → Over w own rt H w' own' rt' (updH H [(n, ⟨x, []⟩)]) k' := by
  obtain ⟨hkeep, own1, d1, n1, f1, s1, ow1⟩ := g
  have hlt : ∀ b y, own b = some y → b < w.heap.size := fun b y e => (h.dom b y e).1
  have hblk : ∀ b, b < w.heap.size → (∀ q, own b ≠ some (n, [] ++ q)) → w'.heap[b]? = w.heap[b]? := fun b hb hn => hkeep.block b hb (fun ⟨q, e⟩ => hn q (subOwn_one e))
  have hlt' : ∀ (b : Nat) (o : Obj), w.heap[b]? = some o → b < w.heap.size := fun b o e => (Array.getElem?_eq_some_iff.1 e).1
  have hout : ∀ b, b < w.heap.size → (∀ q, own b ≠ some (n, [] ++ q)) → backOwn own own1 n [] w.heap.size b = own b := fun b hb hn => by
    simp only [backOwn]; rw [if_pos ⟨hb, hn⟩]
  have hone : ∀ b q, own1 b = some (1, q) → backOwn own own1 n [] w.heap.size b = some (n, [] ++ q) := fun b q e => by
    have hc : ¬ (b < w.heap.size ∧ ∀ q, own b ≠ some (n, [] ++ q)) := by
      rintro ⟨hb, hn⟩
      obtain ⟨q0, e0⟩ := s1 b 1 q hb e (by decide)
      exact hn q0 (subOwn_one e0)
    simp only [backOwn]
    rw [if_neg hc, e]
    rfl
  have h0 : ∀ b o, own b = none → w.heap[b]? = some o → backOwn own own1 n [] w.heap.size b = none ∧ w'.heap[b]? = some o := fun b o e1 e2 => by
    have hn : ∀ q, own b ≠ some (n, [] ++ q) := fun q e => by rw [e1] at e; cases e
    exact ⟨by rw [hout b (hlt' b o e2) hn]; exact e1, by rw [hblk b (hlt' b o e2) hn]; exact e2⟩
  have h1 : ∀ b o, own1 b = none → w'.heap[b]? = some o → backOwn own own1 n [] w.heap.size b = none ∧ w'.heap[b]? = some o := fun b o e1 e2 => by
    refine ⟨?_, e2⟩
    by_cases hb : b < w.heap.size ∧ ∀ q, own b ≠ some (n, [] ++ q)
    · rw [hout b hb.1 hb.2]
      cases ho : own b with
      | none => rfl
      | some y =>
        have := f1 b (subOwn_out (k' := y.1) (q := y.2) ho hb.2)
        rw [e1] at this; cases this
    · simp only [backOwn]
      rw [if_neg hb, e1]
  have hoff : ∀ b o k' q, own b = some (k', q) → k' ≠ n → w.heap[b]? = some o → backOwn own own1 n [] w.heap.size b = some (k', q) ∧ w'.heap[b]? = some o := fun b o k' q e1 e2 e3 => by
    have hn : ∀ q, own b ≠ some (n, [] ++ q) := fun q e => by
      rw [e1] at e
      cases e
      exact e2 rfl
    exact ⟨by rw [hout b (hlt' b o e3) hn]; exact e1, by rw [hblk b (hlt' b o e3) hn]; exact e3⟩
  have hHn : updH H [(n, ⟨x, []⟩)] n = ⟨x, []⟩ := updH_self _ _ _ _
  have hHo : ∀ k', k' ≠ n → updH H [(n, ⟨x, []⟩)] k' = H k' := fun k' e => by simp [updH, lk, Ne.symm e]
  refine ⟨backOwn own own1 n [] w.heap.size, fun k' => if k' = n then v else rt k', if_pos rfl, ⟨⟨hkeep.os.trans h.keep.os, hkeep.tape.trans h.keep.tape, hkeep.output.trans h.keep.output, Nat.le_trans h.keep.size hkeep.size, fun b hb he => ?_⟩, fun b y e => ?_, fun k' => ?_, fun k' hk => ?_, fun b k' q e => ?_, fun b hb => ?_, ?_⟩, h0, fun k' hk' => ?_⟩
  · rw [hblk b (Nat.lt_of_lt_of_le hb h.keep.size) (fun q e => ?_)]
    · exact h.keep.block b hb he
    · rcases (h.dom b _ e).2 with e' | e' | e'
      · omega
      · exact he e'
      · have := h.frn b e'; rw [e] at this; exact n0 (Prod.mk.inj (Option.some.inj this)).1
  · by_cases hb : b < w.heap.size ∧ ∀ q, own b ≠ some (n, [] ++ q)
    · rw [hout b hb.1 hb.2] at e
      exact ⟨Nat.lt_of_lt_of_le hb.1 hkeep.size, (h.dom b y e).2⟩
    · simp only [backOwn] at e
      rw [if_neg hb] at e
      by_cases hb2 : b < w.heap.size
      · refine ⟨Nat.lt_of_lt_of_le hb2 hkeep.size, ?_⟩
        have : ∃ q, own b = some (n, [] ++ q) := by
          by_cases h : ∃ q, own b = some (n, [] ++ q)
          · exact h
          · exact absurd ⟨hb2, fun q e => h ⟨q, e⟩⟩ hb
        obtain ⟨q, e'⟩ := this
        exact (h.dom b _ e').2
      · split at e
        · rename_i q e1
          exact ⟨d1 b _ e1, .inl (by have := h.keep.size; omega)⟩
        · cases e
  · by_cases ek : k' = n
    · subst ek
      rw [hHn]
      try dsimp only
      rw [if_pos rfl]
      exact Ow.mono h1 _ _ _ _ (fun b o q e1 e2 => ⟨hone b q (by simpa using e1), e2⟩) ow1
    · rw [hHo k' ek]
      try dsimp only
      rw [if_neg ek]
      exact Ow.mono h0 _ _ _ _ (fun b o q e1 e2 => hoff b o k' _ e1 ek e2) (h.obj k')
  · have ek : k' ≠ n := fun e => hk (e ▸ hA)
    rw [hHo k' ek]
    exact h.dead k' hk
  · by_cases hb : b < w.heap.size ∧ ∀ q, own b ≠ some (n, [] ++ q)
    · rw [hout b hb.1 hb.2] at e
      exact h.owned b k' q e
    · simp only [backOwn] at e
      rw [if_neg hb] at e
      split at e
      · cases e; exact hA
      · cases e
  · have e := h.frn b hb
    rw [hout b (hlt b _ e) (fun q e2 => by rw [e] at e2; exact n0 (Prod.mk.inj (Option.some.inj e2)).1.symm)]
    exact e
  · rw [hHo 0 (fun e => n0 e.symm)]
    exact h.frn0
  · exact Over.same (h.obj k') (hHo k' hk') (if_neg hk') (fun b o q e1 e2 => (hoff b o k' q e1 hk' e2).2)

/-- A call that is made and that takes over. -/
theorem call_madeT {A : Nat → Prop} {T : Nat → TV} {H : Nat → OB} {own : Own} {rt : Rt} {n : Nat} (h : SRf N w0 E F A T H a w own rt) {f : Operand} {xs : List Operand} (hcl : isCall o.op = some (f, xs)) {fid : FuncId} {cap : List TV} (hf : fnOf (opd T f) = some (fid, cap)) (hd : ∀ s, o.dst = some s → s < N)
    {k : Nat} {p : Path} {vs : List Nat} {l : List TV} (hL : .one (.own k p vs) :: l = xs.map (opd T) ++ cap) (hb : (borA H (.one (.own k p vs) :: l)).1) {x : AV} (hcon : ATake P fid ((H k).a.at p) (borA H l).2.2 x) (hbw : (borA H l).2.1 = false) (hn : ¬ A n)
    {next : Act → World → Prop}
    (hnx : ∀ A' own' rt' w' v, SRf N w0 E F A' (updT T o.dst (.one (.own n [] [0]))) (updH H [(n, ⟨x, []⟩), (k, (H k).cut p)]) (a.put o.dst v) w' own' rt' → (∀ k, A' k → A k ∨ k = n) → next (a.put o.dst v) w') : o.wp P a w next Q := by
  obtain ⟨c, e1, e2, e3⟩ := isCall_spec hcl
  obtain ⟨cs, hv, hcs, hcap⟩ := fnOf_sound hf (opd_rel h f)
  have hargs : c.args = xs.toArray := by rw [← e3]
  have hrun : (execOp a.eval o).run P w = .ok (.enter fid ((xs.map a.eval).toArray ++ cs)) w := by
    have := hcon.enter ((xs.map a.eval).toArray ++ cs) w
    simp [execOp, e1, resolve, e2, hv, Deferred.ofValue, hargs, invoke, this]
  unfold Oper.wp
  rw [hrun, Oper.upon_enter]
  have hrel : ∀ (i : Nat) (t : TV), (TV.one (.own k p vs) :: l)[i]? = some t → ∃ x, (xs.map a.eval ++ cs.toList)[i]? = some x ∧ RelT w own rt H t x := fun i t hi => by
    rw [hL] at hi
    by_cases hlt : i < xs.length
    · rw [List.getElem?_append_left (by simpa using hlt)] at hi
      rw [List.getElem?_append_left (by simpa using hlt)]
      simp only [List.getElem?_map, List.getElem?_eq_getElem hlt, Option.map_some, Option.some.injEq] at hi ⊢
      subst hi
      exact ⟨_, rfl, opd_rel h _⟩
    · rw [List.getElem?_append_right (by simp; omega)] at hi
      rw [List.getElem?_append_right (by simp; omega)]
      simp only [List.length_map] at hi ⊢
      obtain ⟨x, f1, f2⟩ := hcap _ t hi
      exact ⟨x, by simpa using f1, f2⟩
  have hlen : (TV.one (.own k p vs) :: l).length = (xs.map a.eval ++ cs.toList).length := by rw [hL]; simp [hcs]
  obtain ⟨v0, hv0, hr0⟩ := hrel 0 _ rfl
  obtain ⟨vl, hvl⟩ : ∃ vl, xs.map a.eval ++ cs.toList = v0 :: vl := by
    cases hx : xs.map a.eval ++ cs.toList with
    | nil => rw [hx] at hv0; simp at hv0
    | cons y vl => rw [hx] at hv0; simp at hv0; exact ⟨vl, by rw [hv0]⟩
  have hlive : (H k).live p vs := hb.1
  have hh := hr0.2 hlive
  have hH := h.dead n hn
  have n0 := not_zero h.toWRf hn
  obtain ⟨q1, q2, q3, q4, q5⟩ := (h.toWRf.more n).cut hH (.inr rfl) hlive.1 []
  have g2 := q5 _ hh
  obtain ⟨b1, b2⟩ := borA_sound h l vl hb.2 (by rw [hvl] at hlen; simpa using hlen.symm) (fun i t hi => by
    obtain ⟨x, f1, f2⟩ := hrel (i + 1) t (by simpa using hi)
    rw [hvl] at f1
    exact ⟨x, by simpa using f1, f2⟩)
  have hnn : ∀ b o, own b = none → w.heap[b]? = some o → subOwn (mv own k p n []) n [] b = none ∧ w.heap[b]? = some o := fun b o e1 e2 => ⟨subOwn_none (q2.none b e1), e2⟩
  have hlist : ((xs.map a.eval).toArray ++ cs).toList = v0 :: vl := by simpa using hvl
  have hcalls := hcon.calls (subOwn (mv own k p n []) n []) w ((xs.map a.eval).toArray ++ cs) v0 (fun b hb => by
      cases ho : mv own k p n [] b with
      | none => exact absurd (subOwn_none ho) hb
      | some y => exact (q1.dom b y ho).1)
    (fun b k' q e => by
      simp only [subOwn] at e
      split at e
      · cases e
      · split at e
        · cases e; exact .inr rfl
        · cases e; exact .inl ⟨rfl, rfl⟩)
    (by
      have h2 := congrArg List.length hlist
      simp only [Array.length_toList, List.length_cons] at h2
      rw [h2, b1]
      rw [hvl] at hlen
      simpa using hlen.symm)
    (by rw [← Array.getElem?_toList, hlist]; rfl)
    (Ow.mono (fun b o e1 e2 => ⟨subOwn_none e1, e2⟩) _ _ _ _ (fun b o q e1 e2 => ⟨subOwn_in e1, e2⟩) g2)
    (fun j t hj => by
      obtain ⟨v, f1, f2, f3⟩ := b2 j t hj
      refine ⟨v, ?_, ?_⟩
      · rw [← Array.getElem?_toList, hlist]; simpa using f1
      · have := f2 hbw
        cases t with
        | one b => exact Rd.mono hnn _ _ this
        | agg l =>
          obtain ⟨cs, rfl, g1, g2⟩ := this
          exact ⟨cs, rfl, g1, fun j b hj => let ⟨x, f1, f2⟩ := g2 j b hj; ⟨x, f1, Rd.mono hnn _ _ f2⟩⟩)
  refine Calls.mono hcalls (fun e w' he => ?_)
  obtain ⟨v, rfl, hg⟩ := he
  obtain ⟨own', rt', r1, r2, r3, r4⟩ := take_sound q1 (.inr rfl) n0 q4 hg
  have hHeq : updH H [(n, ⟨x, []⟩), (k, (H k).cut p)] = updH (updH H [(k, (H k).cut p)]) [(n, ⟨x, []⟩)] := by
    rw [← updH_append]; rfl
  refine hnx _ own' rt' w' v (by
    rw [hHeq]
    exact h.over r2 (fun b o e1 e2 => r3 b o (q2.none b e1) e2) (fun k' hk => (q3 k').trans (r4 k' (fun e => hn (e ▸ hk)))) (fun k hk => .inl hk) hd (new_own' (updH_self _ _ _ _) r1) (fun k hk => .inr hk.symm)) (fun k hk => hk)

theorem sound_call {f : Operand} {xs : List Operand} {fid : FuncId} {cap : List TV} {k : List It → St → Prop} {K : List It} (h : SR N w0 E F σ a w) (hg : o.guard = none) (hcl : isCall o.op = some (f, xs)) (hf : fnOf (σ.ρ f) = some (fid, cap)) (hd : dOk N o.dst = true)
    (hb : (borA σ.H (xs.map σ.ρ ++ cap)).1) (hk : CallK P fid (borA σ.H (xs.map σ.ρ ++ cap)).2.2 k K σ o.dst (borA σ.H (xs.map σ.ρ ++ cap)).2.1 (xs.map σ.ρ ++ cap))
    (next : ∀ σ' a' w', k K σ' → SR N w0 E F σ' a' w' → wpList P all Q r a' w') : wpList P all Q (o :: r) a w := by
  obtain ⟨A, own, rt, hs, hA⟩ := h
  have hw : Region.wanted o (yielded all a.tmps) = true := by unfold Region.wanted; rw [hg]
  simp only [wpList, hw, if_true]
  left
  rcases hk with ⟨R, hcon, hrest⟩ | hm | ht
  case inr.inr =>
    obtain ⟨r', p, vs, l, hL⟩ : ∃ r p vs l, xs.map σ.ρ ++ cap = .one (.own r p vs) :: l := by
      generalize hx : xs.map σ.ρ ++ cap = ts at ht
      unfold CallT at ht
      split at ht
      · exact ⟨_, _, _, _, rfl⟩
      · exact ht.elim
    rw [hL] at ht hb
    obtain ⟨x, hcon, hbw, hne, hrest⟩ := ht
    refine call_madeT hs hcl hf (dOk_lt hd) hL.symm hb hcon hbw (hA _ (Nat.le_refl _)) (fun A' own' rt' w' v h1 h2 => next _ _ _ hrest ⟨A', own', rt', ?_, fun k hk e => ?_⟩)
    · rw [put_T, put_H]; exact h1
    · have hk' : σ.n + 1 ≤ k := hk
      rcases h2 k e with e | e
      · exact hA k (by omega) e
      · omega
  case inr.inl =>
    have hcase : (∃ r p vs l, xs.map σ.ρ ++ cap = .one (.own r p vs) :: l) ∨ ∃ l i, xs.map σ.ρ ++ cap = [.agg l, .one (.av (.int .i64 i))] := by
      generalize hx : xs.map σ.ρ ++ cap = ts at hm
      unfold CallM at hm
      split at hm
      · exact .inl ⟨_, _, _, _, rfl⟩
      · exact .inr ⟨_, _, rfl⟩
      · exact hm.elim
    rcases hcase with ⟨r', p, vs, l, hL⟩ | ⟨l, i, hL⟩
    case inr =>
      rw [hL] at hm
      obtain ⟨parts, hwr, hpm⟩ := hm
      obtain ⟨c, e1, e2, e3⟩ := isCall_spec hcl
      obtain ⟨cs, hv, hcs, hcap⟩ := fnOf_sound hf (opd_rel hs f)
      have hargs : c.args = xs.toArray := by rw [← e3]
      have hrun : (execOp a.eval o).run P w = .ok (.enter fid ((xs.map a.eval).toArray ++ cs)) w := by
        have := hwr.enter ((xs.map a.eval).toArray ++ cs) w
        simp [execOp, e1, resolve, e2, hv, Deferred.ofValue, hargs, invoke, this]
      unfold Oper.wp
      rw [hrun, Oper.upon_enter]
      have hrel : ∀ (i : Nat) (t : TV), (xs.map σ.ρ ++ cap)[i]? = some t → ∃ x, (xs.map a.eval ++ cs.toList)[i]? = some x ∧ RelT w own rt σ.H t x := fun i t hi => by
        by_cases hlt : i < xs.length
        · rw [List.getElem?_append_left (by simpa using hlt)] at hi
          rw [List.getElem?_append_left (by simpa using hlt)]
          simp only [List.getElem?_map, List.getElem?_eq_getElem hlt, Option.map_some, Option.some.injEq] at hi ⊢
          subst hi
          exact ⟨_, rfl, opd_rel hs _⟩
        · rw [List.getElem?_append_right (by simp; omega)] at hi
          rw [List.getElem?_append_right (by simp; omega)]
          simp only [List.length_map] at hi ⊢
          obtain ⟨x, f1, f2⟩ := hcap _ t hi
          exact ⟨x, by simpa using f1, f2⟩
      have hlen : (xs.map a.eval ++ cs.toList).length = 2 := by
        have := congrArg List.length hL
        simpa [hcs] using this
      cases xs with
      | nil =>
        exfalso
        have hc0 : cap[0]? = some (.agg l) := by
          have : ([] : List Operand).map σ.ρ ++ cap = cap := rfl
          rw [this] at hL; rw [hL]; rfl
        exact fnOf_noagg hf hc0
      | cons y xs' =>
        have hy : σ.ρ y = .agg l := by
          simp only [List.map_cons, List.cons_append, List.cons.injEq] at hL
          exact hL.1
        have hr := opd_rel hs y
        have hy' : opd σ.T y = .agg l := hy
        rw [hy'] at hr
        obtain ⟨cs0, ea, es0, _⟩ := hr
        obtain ⟨x1, f1, f2⟩ := hrel 1 (.one (.av (.int .i64 i))) (by rw [hL]; rfl)
        obtain ⟨f2, f3⟩ := f2
        have hvec : ((y :: xs').map a.eval).toArray ++ cs = #[.agg cs0, .int .i64 i] := by
          have h2 : ((y :: xs').map a.eval ++ cs.toList) = [.agg cs0, .int .i64 i] := by
            match hq : ((y :: xs').map a.eval ++ cs.toList), hlen with
            | [u1, u2], _ =>
              rw [hq] at f1
              simp only [List.map_cons, List.cons_append, List.cons.injEq] at hq
              simp at f1
              rw [← hq.1, ea, f1, f2]
          apply Array.ext'
          simpa using h2
        rw [hvec]
        refine Calls.mono (hwr.calls (fun _ => False) cs0 (.int .i64 i) w _ es0 (chain_sound (E := E) (F := F) (N := N) ea parts i σ (fun _ => False) w own rt A hs hA f3 (fun b hb => hb.elim) hy' hpm) (fun b hb => hb.elim)) (fun e w' he => ?_)
        obtain ⟨v, rfl, _, _, σ', i', hk', rfl, hi', A', own', rt', hs', hA'⟩ := he
        refine next _ _ _ hk' ⟨A', own', rt', ?_, fun k hk e => hA' k (by
          have hk2 : σ'.n + 1 ≤ k := hk
          omega) e⟩
        rw [put_T, put_H]
        exact hs'.put (dOk_lt hd) ⟨rfl, hi'⟩ (fun k hk => hk.elim)
    rw [hL] at hm hb
    obtain ⟨x, i, hcon, hbw, hes, hrest⟩ := hm
    refine call_madeM hs hcl hf (dOk_lt hd) hL.symm hb hcon hbw hes (fun A' own' rt' w' v h1 h2 => next _ _ _ hrest ⟨A', own', rt', ?_, fun k hk e => ?_⟩)
    · rw [put_T, put_H]; exact h1
    · have hk' : σ.n + 1 ≤ k := hk
      exact hA k (by omega) (h2 k e)
  refine call_made hs hcl hf rfl hb hcon (fun own0 w' v rv h0 hr hgv => ?_)
  obtain ⟨hcl2, hrun⟩ := hrest rv hr
  obtain ⟨A', own'', rt'', q1, q2⟩ := ret_sound hs (fun k hk _ => hA k hk) h0 hgv hcl2 (dOk_lt hd)
  exact next _ _ _ hrun ⟨A', own'', rt'', by unfold St.ret; rw [put_T, put_H]; exact q1, fun k hk e => by
    have hk' : σ.n + 1 + rv.cells.length ≤ k := hk
    rcases q2 k e with e | e
    · exact hA k (by omega) e
    · omega⟩

theorem sound_callG {f : Operand} {xs : List Operand} {fid : FuncId} {cap : List TV} {k : List It → St → Prop} {K : List It} {g : Nat} {want gc : Bool} {t : TV} (h : SR N w0 E F σ a w) (hg : o.guard = some (g, want)) (ht : (gdst all g).map σ.T = some t) (hgc : gcond want t = some gc)
    (hcl : isCall o.op = some (f, xs)) (hf : fnOf (σ.ρ f) = some (fid, cap)) (hd : dOk N o.dst = true)
    (hb : gc = true → cok σ.ρ xs ∧ (borA σ.H (xs.map (fun x => unc (σ.ρ x)) ++ cap)).1) (hk : CallG P gc fid (borA σ.H (xs.map (fun x => unc (σ.ρ x)) ++ cap)).2.2 k K σ o.dst (borA σ.H (xs.map (fun x => unc (σ.ρ x)) ++ cap)).2.1)
    (next : ∀ σ' a' w', k K σ' → SR N w0 E F σ' a' w' → wpList P all Q r a' w') : wpList P all Q (o :: r) a w := by
  obtain ⟨A, own, rt, hs, hA⟩ := h
  obtain ⟨b, hp, hcon, hrun⟩ := hk
  cases hgd : gdst all g with
  | none => rw [hgd] at ht; cases ht
  | some d =>
    rw [hgd] at ht
    simp only [Option.map_some, Option.some.injEq] at ht
    have hw := gcond_sound (o := o) hgd (by rw [← ht]; exact hs.tmp d) hgc hg
    simp only [wpList]
    rw [hw]
    cases gc with
    | true =>
      rw [if_pos rfl]
      left
      obtain ⟨hc, hb⟩ := hb rfl
      have hL : xs.map (fun x => unc (σ.ρ x)) ++ cap = xs.map (opd (uncT σ.T)) ++ cap := by
        congr 1
        exact List.map_congr_left (fun x hx => (opd_unc (cok_mem hc x hx)).symm)
      have hf' : fnOf (opd (uncT σ.T) f) = some (fid, cap) := by
        have : cok1 (opd σ.T f) := by
          have hf2 : fnOf (opd σ.T f) = some (fid, cap) := hf
          cases hh : opd σ.T f with
          | cnd b s => rw [hh] at hf2; simp [fnOf] at hf2
          | _ => trivial
        rw [opd_unc this]
        have hf2 : fnOf (opd σ.T f) = some (fid, cap) := hf
        cases hh : opd σ.T f with
        | cnd b s => rw [hh] at hf2; simp [fnOf] at hf2
        | _ => rw [hh] at hf2; exact hf2
      refine call_made hs.unc hcl hf' hL hb (hcon rfl) (fun own0 w' v rv h0 hr hgv => ?_)
      subst hr
      obtain ⟨A', own'', rt'', q1, q2⟩ := ret_cnd hs (fun k hk _ => hA k hk) h0 hgv hp (d := o.dst) (dOk_lt hd)
      exact next _ _ _ hrun ⟨A', own'', rt'', by rw [put_T, put_H]; exact q1, fun k hk e => by
        have hk' : σ.n + 1 + b.cells.length ≤ k := hk
        rcases q2 k e with e | e
        · exact hA k (by omega) e
        · have e2 : (RV.val b).cells.length = b.cells.length := rfl
          omega⟩
    | false =>
      rw [if_neg (by simp)]
      have hrel : RelT w own rt σ.H (.cnd false b.cv) undef := ⟨(fun e => by cases e), fun _ => rfl⟩
      exact next _ _ _ hrun ⟨A, own, rt, by rw [put_T, put_H]; exact hs.put (dOk_lt hd) hrel (fun k hk => (cv_mn hk).elim), fun k hk => hA k (by
        have : σ.n + 1 + b.cells.length ≤ k := hk
        omega)⟩

end
end Go.AM
/- The framework AM, part D1: an operation looks at its operands, and at the objects that it says, alone. -/
namespace Go.AM
open Go
section
variable {H H' : Nat → OB} {P : Program}

/-- The same but for what lies below the first row. -/
def surf0 (x y : AV) : Prop := x = y ∨ ∃ nl es n f g, x = .sl true nl es n f ∧ y = .sl true nl es n g
def surfA (a b : AV) : Prop := a = b ∨ ∃ nl es n f g, a = .sl true nl es n f ∧ b = .sl true nl es n g ∧ ∀ i j, surf0 (f i j) (g i j)
def Surf (o o' : OB) : Prop := o'.vs = o.vs ∧ surfA o.a o'.a
theorem surf0.symm {x y : AV} (h : surf0 x y) : surf0 y x := by
  rcases h with rfl | ⟨nl, es, n, f, g, rfl, rfl⟩
  · exact .inl rfl
  · exact .inr ⟨_, _, _, _, _, rfl, rfl⟩
theorem Surf.symm {o o' : OB} (h : Surf o o') : Surf o' o := by
  obtain ⟨h1, h2⟩ := h
  refine ⟨h1.symm, ?_⟩
  rcases h2 with h2 | ⟨nl, es, n, f, g, e1, e2, h3⟩
  · exact .inl h2.symm
  · exact .inr ⟨_, _, _, _, _, e2, e1, fun i j => (h3 i j).symm⟩
theorem Surf.refl (o : OB) : Surf o o := ⟨rfl, .inl rfl⟩
theorem surf_cut {o : OB} {p : Path} (hok : o.a.okp p) (hp : 2 ≤ p.length) : Surf o (o.cut p) := by
  refine ⟨rfl, ?_⟩
  obtain ⟨a, vs⟩ := o
  cases p with
  | nil => simp at hp
  | cons ij p =>
    obtain ⟨i, j⟩ := ij
    cases a with
    | sl u nl es n f =>
      cases u with
      | false => cases hok
      | true =>
        obtain ⟨_, _, hok⟩ := hok
        refine .inr ⟨nl, es, n, f, _, rfl, rfl, fun i' j' => ?_⟩
        by_cases e : i' = i ∧ j' = j
        · obtain ⟨rfl, rfl⟩ := e
          simp only [and_self, if_true]
          cases p with
          | nil => simp at hp
          | cons x p =>
            obtain ⟨i2, j2⟩ := x
            generalize f i' j' = b at hok
            cases b with
            | sl u nl es n f =>
              cases u with
              | false => cases hok
              | true => exact .inr ⟨nl, es, n, f, _, rfl, rfl⟩
            | _ => cases hok
        · rw [if_neg e]; exact .inl rfl
    | _ => cases hok
theorem Surf.row {o o' : OB} (h : Surf o o') : ∀ {p : Path}, shx p = true → (∀ vs, o'.live p vs = o.live p vs) ∧ ((o'.a.at p = o.a.at p) ∨ ∃ nl es n f g, o.a.at p = .sl true nl es n f ∧ o'.a.at p = .sl true nl es n g ∧ (p = [] → ∀ i j, surf0 (f i j) (g i j))) := by
  obtain ⟨a, vs⟩ := o
  obtain ⟨a', vs'⟩ := o'
  obtain ⟨h1, h2⟩ := h
  dsimp only at h1 h2
  subst h1
  intro p hp
  rcases h2 with rfl | ⟨nl, es, n, f, g, rfl, rfl, h3⟩
  · exact ⟨fun _ => rfl, .inl rfl⟩
  · cases p with
    | nil => exact ⟨fun _ => rfl, .inr ⟨nl, es, n, f, g, rfl, rfl, fun _ => h3⟩⟩
    | cons ij p =>
      obtain ⟨i, j⟩ := ij
      cases p with
      | cons _ _ => cases hp
      | nil =>
        rcases h3 i j with e | ⟨nl2, es2, n2, f2, g2, e1, e2⟩
        · refine ⟨fun w => ?_, .inl ?_⟩
          · simp only [OB.live, AV.okp, e]
          · simp only [AV.at, e]
        · refine ⟨fun w => ?_, .inr ⟨nl2, es2, n2, f2, g2, ?_, ?_, fun h => by cases h⟩⟩
          · simp only [OB.live, AV.okp, e1, e2]
          · simp only [AV.at, e1]
          · simp only [AV.at, e2]

theorem slOf_frame {s : SV} {r : Prop × Nat × Nat × (Nat → Nat → AV) × List Nat} (h : slOf H s = some r) (hH : ∀ k ∈ r.2.2.2.2, H' k = H k) : slOf H' s = some r := by
  cases s with
  | own k p vs =>
    have hk : H' k = H k := by
      simp only [slOf] at h; split at h
      · cases h; exact hH k (by simp)
      · cases h
    simp only [slOf, hk] at h ⊢; exact h
  | view k p vs lo hi =>
    have hk : H' k = H k := by
      simp only [slOf] at h; split at h
      · cases h; exact hH k (by simp)
      · cases h
    simp only [slOf, hk] at h ⊢; exact h
  | av a => cases a <;> exact h
  | _ => exact h

theorem nlOf_frame {s : SV} {r : Prop × Bool × List Nat} (h : nlOf H s = some r) (hH : ∀ k ∈ r.2.2, H' k = H k) : nlOf H' s = some r := by
  cases s with
  | own k p vs =>
    have hk : H' k = H k := by
      simp only [nlOf] at h; split at h
      · cases h; exact hH k (by simp)
      · cases h; exact hH k (by simp)
      · cases h
    simp only [nlOf, hk] at h ⊢; exact h
  | av a => cases a with
    | sl u nl es n f => cases nl <;> exact h
    | _ => exact h
  | _ => exact h

theorem apSrc_frame {es : Nat} {s : SV} {r : Prop × Nat × (Nat → Nat → AV) × List Nat} (h : apSrc H es s = some r) (hH : ∀ k ∈ r.2.2.2, H' k = H k) : apSrc H' es s = some r := by
  cases s with
  | own k p vs =>
    have hk : H' k = H k := by
      simp only [apSrc] at h; split at h
      · cases h; exact hH k (by simp)
      · cases h
    simp only [apSrc, hk] at h ⊢; exact h
  | view k p vs lo hi =>
    have hk : H' k = H k := by
      simp only [apSrc] at h; split at h
      · cases h; exact hH k (by simp)
      · cases h
    simp only [apSrc, hk] at h ⊢; exact h
  | av a => cases a <;> exact h
  | _ => exact h

theorem lenOf_frame {t : TypeId} {s : SV} {r : Prop × Nat × List Nat} (h : lenOf P t H s = some r) (hH : ∀ k ∈ r.2.2, H' k = H k) : lenOf P t H' s = some r := by
  by_cases hs : ∃ b, s = .av (.str b)
  · obtain ⟨b, rfl⟩ := hs; exact h
  · have e : ∀ H, lenOf P t H s = (match slOf H s with
        | some (ok, _, n, _, rd) => some ((tk P t).el.isSome = true ∧ ok, n, rd)
        | none => none) := by
      intro H
      cases s with
      | av a => cases a <;> first | rfl | exact absurd ⟨_, rfl⟩ hs
      | _ => rfl
    rw [e] at h ⊢
    cases h2 : slOf H s with
    | none => rw [h2] at h; cases h
    | some q =>
      rw [h2] at h
      obtain ⟨ok, es, n, f, rd⟩ := q
      cases h
      rw [slOf_frame h2 hH]

theorem sto1_frame {s : SV} (hH : ∀ k ∈ (sto1 H s).rd, H' k = H k) : sto1 H' s = sto1 H s := by
  cases s with
  | own k p vs =>
    have hk : H' k = H k := hH k (by simp [sto1])
    simp only [sto1, hk]
  | _ => rfl

theorem stoL_frame : ∀ {l : List SV} {H H' : Nat → OB}, (∀ k ∈ (stoL H l).rd, H' k = H k) → stoL H' l = stoL H l
  | [], _, _, _ => rfl
  | s :: r, H, H', h => by
    have h1 : sto1 H' s = sto1 H s := sto1_frame (fun k hk => h k (by simp only [stoL, List.mem_append]; exact .inl hk))
    have h2 : stoL (fun k => lk (H' k) (sto1 H s).hu k) r = stoL (fun k => lk (H k) (sto1 H s).hu k) r := stoL_frame (fun k hk => by
      have := h k (by simp only [stoL, List.mem_append]; exact .inr hk)
      simp only [this])
    simp only [stoL, h1, h2]

theorem sto_frame {t : TV} (hH : ∀ k ∈ (sto H t).rd, H' k = H k) : sto H' t = sto H t := by
  cases t with
  | one s => exact sto1_frame hH
  | agg l => exact stoL_frame hH
  | _ => rfl

theorem stoParts_frame {ρ ρ' : Operand → TV} : ∀ {l : List (Nat × Operand)} {H H' : Nat → OB}, (∀ x ∈ l, ρ' x.2 = ρ x.2) → (∀ k ∈ (stoParts H ρ l).1.rd, H' k = H k) → stoParts H' ρ' l = stoParts H ρ l
  | [], _, _, _, _ => rfl
  | (i, x) :: r, H, H', hρ, h => by
    have hx : ρ' x = ρ x := hρ (i, x) (by simp)
    have h1 : sto H' (ρ x) = sto H (ρ x) := sto_frame (fun k hk => h k (by simp only [stoParts, List.mem_append]; exact .inl hk))
    have h2 : stoParts (fun k => lk (H' k) (sto H (ρ x)).hu k) ρ' r = stoParts (fun k => lk (H k) (sto H (ρ x)).hu k) ρ r := stoParts_frame (fun y hy => hρ y (by simp [hy])) (fun k hk => by
      have := h k (by simp only [stoParts, List.mem_append]; exact .inr hk)
      simp only [this])
    simp only [stoParts, hx, h1, h2]

theorem s1_frame {s : SV} (h : ∀ k ∈ s.ml, H' k = H k) : s1 H' s = s1 H s := by
  cases s with
  | own k p vs => simp only [s1, h k (by simp [SV.ml, SV.ml0])]
  | ref k p vs i o => simp only [s1, h k (by simp [SV.ml, SV.ml0])]
  | view k p vs i o => simp only [s1, h k (by simp [SV.ml, SV.ml0])]
  | _ => rfl
theorem s1L_frame : ∀ {l : List SV}, (∀ k ∈ SV.mlL l, H' k = H k) → s1L H' l = s1L H l
  | [], _ => rfl
  | s :: r, h => by
    simp only [s1L, s1_frame (s := s) (fun k hk => h k (by simp [SV.mlL, hk])), s1L_frame (l := r) (fun k hk => h k (by simp [SV.mlL, hk]))]
theorem t1_frame {t : TV} (h : ∀ k ∈ t.ml, H' k = H k) : t1 H' t = t1 H t := by
  cases t with
  | one s => exact s1_frame h
  | agg l => exact s1L_frame h
  | _ => rfl
theorem t1All_frame {ρ ρ' : Operand → TV} : ∀ {l : List Operand}, (∀ x ∈ l, ρ' x = ρ x) → (∀ k ∈ mlO ρ l, H' k = H k) → t1All H' ρ' l = t1All H ρ l
  | [], _, _ => rfl
  | x :: r, hρ, h => by
    have hx : ρ' x = ρ x := hρ x (by simp)
    simp only [t1All, hx, t1_frame (t := ρ x) (fun k hk => h k (by simp [mlO, hk])), t1All_frame (l := r) (fun y hy => hρ y (by simp [hy])) (fun k hk => h k (by simp [mlO, hk]))]

theorem buildF_frame {t : TypeId} {ρ ρ' : Operand → TV} : ∀ {l : List (Nat × Operand)} {m : List SV}, (∀ x ∈ l, ρ' x.2 = ρ x.2) → buildF P t ρ' l m = buildF P t ρ l m
  | [], _, _ => rfl
  | (i, x) :: r, m, h => by
    have hx : ρ' x = ρ x := h (i, x) (by simp)
    simp only [buildF, hx]
    exact buildF_frame (fun y hy => h y (by simp [hy]))
theorem buildOk_frame {t : TypeId} {ρ ρ' : Operand → TV} : ∀ {l : List (Nat × Operand)}, (∀ x ∈ l, ρ' x.2 = ρ x.2) → buildOk P t ρ' l = buildOk P t ρ l
  | [], _ => rfl
  | (i, x) :: r, h => by
    have hx : ρ' x = ρ x := h (i, x) (by simp)
    simp only [buildOk, hx, buildOk_frame (l := r) (fun y hy => h y (by simp [hy]))]
theorem cloOps_frame {ρ ρ' : Operand → TV} : ∀ {l : List Operand}, (∀ x ∈ l, ρ' x = ρ x) → cloOps ρ' l = cloOps ρ l
  | [], _ => rfl
  | x :: r, h => by
    have hx : ρ' x = ρ x := h x (by simp)
    simp only [cloOps, hx, cloOps_frame (l := r) (fun y hy => h y (by simp [hy]))]

theorem snds_mem : ∀ {l : List (Nat × Operand)} {x : Operand}, x ∈ snds l → ∃ y ∈ l, y.2 = x
  | (i, z) :: r, x, h => by
    simp only [snds, List.mem_cons] at h
    rcases h with rfl | h
    · exact ⟨(i, x), by simp, rfl⟩
    · obtain ⟨y, h1, h2⟩ := snds_mem h; exact ⟨y, by simp [h1], h2⟩

theorem slc_frame {t : TypeId} {s : SV} {lo hi : Option Int} (hok : (slc P t H s lo hi).ok) (hH : ∀ k ∈ (slc P t H s lo hi).rd, H' k = H k) : slc P t H' s lo hi = slc P t H s lo hi := by
  cases s with
  | own k p vs =>
    have hk : H' k = H k := by
      simp only [slc] at hok hH
      split at hok
      · rename_i e; rw [e] at hH; exact hH k (by simp)
      · exact hok.elim
    simp only [slc, hk]
  | view k p vs i j =>
    have hk : H' k = H k := by
      simp only [slc] at hok hH
      split at hok
      · rename_i e; rw [e] at hH; exact hH k (by simp)
      · exact hok.elim
    simp only [slc, hk]
  | av a => cases a <;> rfl
  | _ => rfl

theorem conv_frame {s d : TypeId} {x : Operand} {ρ ρ' : Operand → TV} (hρ : ρ' x = ρ x) (hok : (conv P s d x ρ H).ok) (hH : ∀ k ∈ (conv P s d x ρ H).rd, H' k = H k) : conv P s d x ρ' H' = conv P s d x ρ H := by
  unfold conv at hok hH ⊢
  rw [hρ]
  split
  · rfl
  · rfl
  · rename_i s' hne e1 e2 e3
    simp only [e1, e2, e3] at hok hH
    split at hok
    · rename_i ok es m f rd e f1 f2
      rw [f1, f2] at hH
      have := slOf_frame f1 hH
      rw [this, f2]
    · exact hok.elim
  · rfl

theorem apOld_frame {t : TypeId} {x y : TV} {n : Nat} (hok : (apOld P t x y H n).ok) (hH : ∀ k ∈ (apOld P t x y H n).rd, H' k = H k) : apOld P t x y H' n = apOld P t x y H n := by
  unfold apOld at hok hH ⊢
  cases he : (tk P t).el with
  | none => rfl
  | some e =>
    rw [he] at hok hH
    dsimp only at hok hH ⊢
    cases x with
    | one s => cases y with
      | one z =>
        dsimp only at hok hH ⊢
        cases hz : apSrc H (tk P e).sz z with
        | none => rw [hz] at hok; exact hok.elim
        | some q =>
          obtain ⟨ok2, m, g, rd2⟩ := q
          rw [hz] at hok hH
          dsimp only at hok hH
          have key : (∀ k ∈ rd2, H' k = H k) → apSrc H' (tk P e).sz z = some (ok2, m, g, rd2) := fun h => apSrc_frame hz h
          cases s with
          | av a =>
            cases a with
            | sl u nl es' n' f =>
              cases nl with
              | none => exact hok.elim
              | some b => cases b with
                | false => exact hok.elim
                | true => cases n' with
                  | zero => rw [key hH]; rfl
                  | succ n' => exact hok.elim
            | _ => exact hok.elim
          | own k p vs =>
            dsimp only at hok hH
            have hk : H' k = H k := by
              split at hok
              · rename_i e2; rw [e2] at hH; exact hH k (by simp)
              · exact hok.elim
            have hr : ∀ k ∈ rd2, H' k = H k := by
              split at hok
              · rename_i e2; rw [e2] at hH; exact fun k hk => hH k (by simp [hk])
              · exact hok.elim
            rw [key hr]
            dsimp only
            rw [hk]
          | _ => exact hok.elim
      | _ => exact hok.elim
    | _ => exact hok.elim

theorem apMv_frame {e : TypeId} {s : SV} {n k2 : Nat} {ok2 : Prop} {g : Nat → Nat → AV} (hok : (apMv P e s H n k2 ok2 g).ok) (hH : ∀ k ∈ (apMv P e s H n k2 ok2 g).rd, H' k = H k) : apMv P e s H' n k2 ok2 g = apMv P e s H n k2 ok2 g := by
  unfold apMv at hok hH ⊢
  dsimp only at hok hH ⊢
  cases s with
  | av a =>
    cases a with
    | sl u nl es' n' f =>
      cases nl with
      | none => exact hok.elim
      | some b => cases b with
        | false => exact hok.elim
        | true => cases n' with
          | zero =>
            have e := hH k2 (by simp)
            rw [e]
            rfl
          | succ n' => exact hok.elim
    | _ => exact hok.elim
  | own k p vs =>
    dsimp only at hok hH ⊢
    have hk : H' k = H k := by
      split at hok
      · rename_i e2; rw [e2] at hH; exact hH k (by simp)
      · exact hok.elim
    have hk2 : H' k2 = H k2 := by
      split at hok
      · rename_i e2; rw [e2] at hH; exact hH k2 (by simp)
      · exact hok.elim
    rw [hk, hk2]
  | _ => exact hok.elim
/-- What an append of an owner's reads says who the source is. -/
theorem apOld_rd {t e : TypeId} {s : SV} {k : Nat} {vs : List Nat} {n : Nat} (he : (tk P t).el = some e) (hok : (apOld P t (.one s) (.one (.own k [] vs)) H n).ok) : k ∈ (apOld P t (.one s) (.one (.own k [] vs)) H n).rd := by
  unfold apOld at hok ⊢
  rw [he] at hok ⊢
  dsimp only at hok ⊢
  cases hz : apSrc H (tk P e).sz (.own k [] vs) with
  | none => rw [hz] at hok; exact hok.elim
  | some q =>
    obtain ⟨ok2, m, g, rd2⟩ := q
    have hk : k ∈ rd2 := by
      unfold apSrc at hz
      dsimp only at hz
      split at hz
      · simp only [Option.some.injEq, Prod.mk.injEq] at hz
        rw [← hz.2.2.2]; simp
      · cases hz
    rw [hz] at hok
    dsimp only at hok ⊢
    split at hok
    · exact hk
    · split at hok
      · rename_i e2
        exact List.mem_cons_of_mem _ hk
      · exact hok.elim
    · exact hok.elim
theorem apMv_rd {e : TypeId} {s : SV} {n k2 : Nat} {ok2 : Prop} {g : Nat → Nat → AV} (hok : (apMv P e s H n k2 ok2 g).ok) : k2 ∈ (apMv P e s H n k2 ok2 g).rd := by
  unfold apMv at hok ⊢
  dsimp only at hok ⊢
  split at hok
  · simp
  · split at hok
    · simp
    · exact hok.elim
  · exact hok.elim
theorem apOp_frame {t : TypeId} {x y : TV} {n : Nat} (hok : (apOp P t x y H n).ok) (hH : ∀ k ∈ (apOp P t x y H n).rd, H' k = H k) : apOp P t x y H' n = apOp P t x y H n := by
  unfold apOp at hok hH ⊢
  cases hel : (tk P t).el with
  | none => rw [hel] at hok hH; exact apOld_frame hok hH
  | some e =>
    rw [hel] at hok hH
    cases x with
    | one s => cases y with
      | one z =>
        dsimp only at hok hH ⊢
        cases hsrc : mvSrc H (tk P e).sz z with
        | some q =>
          obtain ⟨k2, ok2, g⟩ := q
          rw [hsrc] at hok hH
          dsimp only at hok hH
          have hk2 := hH k2 (apMv_rd hok)
          have hsame : mvSrc H' (tk P e).sz z = mvSrc H (tk P e).sz z := by
            unfold mvSrc at hsrc ⊢
            split at hsrc
            · rename_i k vs
              split at hsrc
              · rename_i nl es' m g' ea
                cases how : ownsN (tk P e).sz (g' 0) with
                | false => rw [how] at hsrc; cases hsrc
                | true =>
                  rw [how] at hsrc
                  simp only [cond_true, Option.some.injEq, Prod.mk.injEq] at hsrc
                  rw [← hsrc.1] at hk2
                  rw [hk2, ea]
                  dsimp only
                  rw [how]
              · cases hsrc
            · cases hsrc
          rw [hsame, hsrc]
          exact apMv_frame hok hH
        | none =>
          rw [hsrc] at hok hH
          dsimp only at hok hH
          have hsame : mvSrc H' (tk P e).sz z = mvSrc H (tk P e).sz z := by
            cases z with
            | own k p vs => cases p with
              | nil =>
                have := hH k (apOld_rd hel hok)
                simp only [mvSrc, this]
              | cons _ _ => rfl
            | _ => rfl
          rw [hsame, hsrc]
          exact apOld_frame hok hH
      | _ => exact apOld_frame hok hH
    | _ => exact apOld_frame hok hH

theorem optI_frame {ρ ρ' : Operand → TV} {lo : Option Operand} (h : ∀ x, lo = some x → ρ' x = ρ x) : optI ρ' lo = optI ρ lo := by
  cases lo with
  | none => rfl
  | some x => simp only [optI, h x rfl]

def stoR (P : Program) (t : TypeId) (H1 : Nat → OB) (k : Nat) (p : Path) (vs : List Nat) (i o es m : Nat) (z : TV) : Res :=
  let s := sto H1 z
  let K := lk (H1 k) s.hu k
  { ok := (H1 k).live p vs ∧ i < m ∧ s.ok ∧ (tk P t).can = true ∧ s.cs.length = (tk P t).sz ∧ o + s.cs.length ≤ es ∧ K.live p vs ∧ (K.a.at p).es = es ∧ (K.a.at p).n = m, v := .junk,
    hu := (k, ⟨K.a.setR p i o s.cs, if s.cs.all plain then K.vs else bump K.vs (p.length + 1)⟩) :: s.hu, rd := k :: s.rd }
def stoM (P : Program) (t : TypeId) (H1 : Nat → OB) (k : Nat) (p : Path) (vs : List Nat) (i o : Nat) (_ : Option Bool) (es m : Nat) (_ : Nat → Nat → AV) (z : TV) : Res :=
  match z with
  | .one (.view k' p' vs' lo hi) =>
    (match (H1 k).a.at p' with
    | .sl true nl es' m' f' =>
      { ok := k' = k ∧ p' = p ++ [(i, o)] ∧ (H1 k).live p vs ∧ (H1 k).live p' vs' ∧ lo = 0 ∧ hi ≤ m' ∧ (tk P t).sz = 1 ∧ i < m ∧ o + 1 ≤ es ∧ ((H1 k).cut p').live p vs ∧ (((H1 k).cut p').a.at p).es = es ∧ (((H1 k).cut p').a.at p).n = m, v := .junk, hu := [(k, ⟨((H1 k).a.cut p').setR p i o [.sl true (if nl = some false then some false else none) es' hi f'], bump (H1 k).vs (p.length + 1)⟩)], rd := [k] }
    | _ => bad)
  | z =>
    let s := sto H1 z
    let K := lk (H1 k) s.hu k
    { ok := (H1 k).live p vs ∧ i < m ∧ s.ok ∧ (tk P t).can = true ∧ s.cs.length = (tk P t).sz ∧ o + s.cs.length ≤ es ∧ K.live p vs ∧ (K.a.at p).es = es ∧ (K.a.at p).n = m, v := .junk,
      hu := (k, ⟨K.a.setR p i o s.cs, if s.cs.all plain then K.vs else bump K.vs (p.length + 1)⟩) :: s.hu, rd := k :: s.rd }

/-- An operation that is let looks at its operands and at the objects that it says, alone. -/
theorem aop_frame {op : Op} {ρ ρ' : Operand → TV} {n : Nat} (hρ : ∀ x ∈ op.operands.toList, ρ' x = ρ x) (hok : (aop P op ρ H n).ok) (hH : ∀ k ∈ (aop P op ρ H n).rd, H' k = H k) (hS : ∀ k ∈ (aop P op ρ H n).sh, Surf (H k) (H' k)) : aop P op ρ' H' n = aop P op ρ H n := by
  cases op with
  | move x => have h1 := hρ x (by simp [Op.operands]); simp only [aop, h1]
  | assign x => have h1 := hρ x (by simp [Op.operands]); simp only [aop, h1]
  | pick c x y =>
    have h1 := hρ c (by simp [Op.operands]); have h2 := hρ x (by simp [Op.operands]); have h3 := hρ y (by simp [Op.operands])
    simp only [aop, h1, h2, h3]
  | box t x =>
    have h1 := hρ x (by simp [Op.operands])
    have h2 : sto H' (ρ x) = sto H (ρ x) := sto_frame hH
    simp only [aop, h1, h2]
  | alloc t => rfl
  | build t parts =>
    have hp : ∀ x ∈ parts.toList, ρ' x.2 = ρ x.2 := fun x hx => hρ x.2 (by simp only [Op.operands, List.mem_map]; exact ⟨x, hx, rfl⟩)
    have h3 : t1All H' ρ' (snds parts.toList) = t1All H ρ (snds parts.toList) := t1All_frame (fun x hx => by obtain ⟨y, h1, h2⟩ := snds_mem hx; rw [← h2]; exact hp y h1) hH
    have h4 : mlO ρ' (snds parts.toList) = mlO ρ (snds parts.toList) := by
      have : ∀ (l : List Operand), (∀ x ∈ l, ρ' x = ρ x) → mlO ρ' l = mlO ρ l := by
        intro l; induction l with
        | nil => intro _; rfl
        | cons x r ih => intro h; simp only [mlO, h x (by simp), ih (fun y hy => h y (by simp [hy]))]
      exact this _ (fun x hx => by obtain ⟨y, h1, h2⟩ := snds_mem hx; rw [← h2]; exact hp y h1)
    simp only [aop, buildF_frame hp, buildOk_frame hp, h3, h4]
  | buildSlice t len parts =>
    have hp : ∀ x ∈ parts.toList, ρ' x.2 = ρ x.2 := fun x hx => hρ x.2 (by simp only [Op.operands, List.mem_map]; exact ⟨x, hx, rfl⟩)
    simp only [aop] at hH hok ⊢
    cases he : (tk P t).el with
    | none => rfl
    | some e =>
      rw [he] at hH
      have h2 : stoParts H' ρ' parts.toList = stoParts H ρ parts.toList := stoParts_frame hp hH
      simp only [h2]
  | load t x =>
    have h1 := hρ x (by simp [Op.operands])
    simp only [aop, h1] at hok hH hS ⊢
    split
    · rfl
    · rename_i k p vs i o hx
      rw [hx] at hok hH hS
      dsimp only at hok hH hS
      cases hsh : shl p (tk P t).agg with
      | false =>
        have hk : H' k = H k := by
          split at hok
          · rename_i e; rw [e] at hH; dsimp only at hH; rw [hsh] at hH; exact hH k (by simp)
          · exact hok.elim
        rw [hk]
      | true =>
        have hp : p = [] ∧ (tk P t).agg = false := by
          cases p with
          | nil => exact ⟨rfl, by simpa [shl] using hsh⟩
          | cons _ _ => cases hsh
        obtain ⟨rfl, hag⟩ := hp
        have hs : Surf (H k) (H' k) := by
          split at hok
          · rename_i e; rw [e] at hS; dsimp only at hS; rw [hsh] at hS; exact hS k (by simp)
          · exact hok.elim
        obtain ⟨q1, q2⟩ := hs.row (p := []) rfl
        rcases q2 with q2 | ⟨nl, es, m, f, g, e1, e2, q3⟩
        · rw [q2, hs.1]
          simp only [q1]
        · rw [e1, e2]
          dsimp only
          have e3 : ldTV P t (fun j => ldc k [] (H' k).vs i j (g i j)) o = ldTV P t (fun j => ldc k [] (H k).vs i j (f i j)) o := by
            unfold ldTV
            rw [hag, hs.1]
            simp only [Bool.false_eq_true, if_false]
            rcases q3 rfl i o with e | ⟨_, _, _, _, _, e4, e5⟩
            · rw [e]
            · rw [e4, e5]; rfl
          rw [e3]
          simp only [q1]
    · rfl
  | store t x y =>
    have h1 := hρ x (by simp [Op.operands]); have h2 := hρ y (by simp [Op.operands])
    simp only [aop, h1, h2] at hok hH ⊢
    cases hx : ρ x with
    | one s =>
      cases s with
      | ref k p vs i o =>
        rw [hx] at hok hH
        dsimp only at hok hH ⊢
        cases hk0 : (H k).a.at p with
        | sl u nl es m f =>
          cases u with
          | true =>
            rw [hk0] at hok hH
            dsimp only at hok hH ⊢
            have rest : ∀ z, (∀ k' p' vs' lo hi, z ≠ .one (.view k' p' vs' lo hi)) → ∀ H1 : Nat → OB, stoM P t H1 k p vs i o nl es m f z = stoR P t H1 k p vs i o es m z := by
              intro z hz H1
              cases z with
              | one s => cases s with
                | view k' p' vs' lo hi => exact absurd rfl (hz k' p' vs' lo hi)
                | _ => rfl
              | _ => rfl
            by_cases hv : ∃ k' p' vs' lo hi, ρ y = .one (.view k' p' vs' lo hi)
            · obtain ⟨k', p', vs', lo, hi, hv⟩ := hv
              rw [hv] at hok hH ⊢
              dsimp only at hok hH ⊢
              cases hk1 : (H k).a.at p' with
              | sl u2 nl2 es2 m2 f2 =>
                cases u2 with
                | true =>
                  rw [hk1] at hH
                  have hk : H' k = H k := hH k (by simp)
                  rw [hk, hk0]; dsimp only; rw [hk1]
                | false => rw [hk1] at hok; exact hok.elim
              | _ => rw [hk1] at hok; exact hok.elim
            · have hv' : ∀ k' p' vs' lo hi, ρ y ≠ .one (.view k' p' vs' lo hi) := fun _ _ _ _ _ e => hv ⟨_, _, _, _, _, e⟩
              have r1 := rest _ hv' H
              have hH2 : ∀ k2 ∈ k :: (sto H (ρ y)).rd, H' k2 = H k2 := fun k2 h2 => hH k2 (by
                have e := congrArg Res.rd r1
                have h3 : k2 ∈ (stoM P t H k p vs i o nl es m f (ρ y)).rd := by rw [e]; exact h2
                exact h3)
              have hk : H' k = H k := hH2 k (by simp)
              have hs : sto H' (ρ y) = sto H (ρ y) := sto_frame (fun k2 h => hH2 k2 (by simp [h]))
              have r2 := rest _ hv' H'
              rw [hk]
              rw [hk0]
              dsimp only
              have e3 : stoM P t H' k p vs i o nl es m f (ρ y) = stoM P t H k p vs i o nl es m f (ρ y) := by
                rw [r1, r2]; simp only [stoR, hk, hs]
              have e4 := e3
              unfold stoM at e4
              rw [hk] at e4
              exact e4
          | false => rw [hk0] at hok; exact hok.elim
        | _ => rw [hk0] at hok; exact hok.elim
      | _ => rfl
    | _ => rfl
  | nilCheck x =>
    have h1 := hρ x (by simp [Op.operands])
    simp only [aop, h1] at hok hH ⊢
  | binOp op t x y yt =>
    have h1 := hρ x (by simp [Op.operands]); have h2 := hρ y (by simp [Op.operands])
    simp only [aop, h1, h2] at hok hH ⊢
    split
    · rename_i e s u es f e1 e2 e3
      simp only [e1, e2, e3] at hok hH
      cases hn : nlOf H s with
      | none => rw [hn] at hok; exact hok.elim
      | some q =>
        obtain ⟨ok, b, rd⟩ := q
        rw [hn] at hH
        rw [nlOf_frame hn hH]
    · rename_i e s u es f e1 e2 e3
      simp only [e1, e2, e3] at hok hH
      cases hn : nlOf H s with
      | none => rw [hn] at hok; exact hok.elim
      | some q =>
        obtain ⟨ok, b, rd⟩ := q
        rw [hn] at hH
        rw [nlOf_frame hn hH]
    · rfl
  | unOp u t x => have h1 := hρ x (by simp [Op.operands]); cases u <;> simp only [aop, h1]
  | convert s d x => exact conv_frame (hρ x (by simp [Op.operands])) hok hH
  | makeFunc g first cap =>
    have hc : cloOps ρ' cap.toList = cloOps ρ cap.toList := cloOps_frame (fun x hx => hρ x (by simp [Op.operands] at hx ⊢; exact .inr hx))
    simp only [aop, hc]
  | makeSlice t l c =>
    have h1 := hρ l (by simp [Op.operands]); have h2 := hρ c (by simp [Op.operands])
    simp only [aop, h1, h2]
  | slice t x lo hi mx =>
    cases mx with
    | some m =>
      cases lo with
      | none => rfl
      | some lo =>
      cases hi with
      | none => rfl
      | some hi =>
      have h1 := hρ x (by simp [Op.operands])
      have h2 := hρ lo (by simp [Op.operands])
      have h3 := hρ hi (by simp [Op.operands])
      have h4 := hρ m (by simp [Op.operands])
      simp only [aop, h1, h2, h3, h4] at hok hH ⊢
      split at hok
      · rename_i s k1 i1 k2 i2 k3 i3 q1 q2 q3 q4
        try rw [q1, q2, q3, q4] at hH
        try dsimp only at hH ⊢
        cases hz : slOf H s with
        | none => rw [hz] at hok; exact hok.elim
        | some r =>
          obtain ⟨ok, es, mm, f, rd⟩ := r
          rw [hz] at hH
          rw [slOf_frame hz hH]
      · exact hok.elim
    | none =>
      have h1 := hρ x (by simp [Op.operands])
      have h2 : optI ρ' lo = optI ρ lo := optI_frame (fun y hy => hρ y (by subst hy; simp [Op.operands]))
      have h3 : optI ρ' hi = optI ρ hi := optI_frame (fun y hy => hρ y (by subst hy; simp [Op.operands]))
      simp only [aop, h1, h2, h3] at hok hH ⊢
      cases hx : ρ x with
      | one s =>
        rw [hx] at hok hH
        cases hl : optI ρ lo with
        | none => rfl
        | some l =>
          cases hh : optI ρ hi with
          | none => rfl
          | some h =>
            rw [hl, hh] at hok hH
            exact slc_frame hok hH
      | _ => rfl
  | fieldAddr t x i =>
    have h1 := hρ x (by simp [Op.operands])
    simp only [aop, h1] at hok hH ⊢
  | field t x i => have h1 := hρ x (by simp [Op.operands]); simp only [aop, h1]
  | indexAddr t x y =>
    have h1 := hρ x (by simp [Op.operands]); have h2 := hρ y (by simp [Op.operands])
    simp only [aop, h1, h2] at hok hH hS ⊢
    split
    · rfl
    · rename_i k p vs kk i e1 e2
      rw [e1, e2] at hok hH hS
      dsimp only at hok hH hS
      cases hsh : shx p with
      | false =>
        have hk : H' k = H k := by
          split at hok
          · rename_i e; rw [e] at hH; dsimp only at hH; rw [hsh] at hH; exact hH k (by simp)
          · exact hok.elim
        rw [hk]
      | true =>
        have hs : Surf (H k) (H' k) := by
          split at hok
          · rename_i e; rw [e] at hS; dsimp only at hS; rw [hsh] at hS; exact hS k (by simp)
          · exact hok.elim
        obtain ⟨q1, q2⟩ := hs.row hsh
        rcases q2 with q2 | ⟨nl, es, m, f, g, e3, e4, _⟩
        · rw [q2]
          simp only [q1]
        · rw [e3, e4]
          simp only [q1]
    · rename_i k p vs lo hi kk i e1 e2
      have hk : H' k = H k := by
        rw [e1, e2] at hok hH
        dsimp only at hok hH
        split at hok
        · rename_i e; rw [e] at hH; exact hH k (by simp)
        · exact hok.elim
      rw [hk]
    · rfl
  | index t x y =>
    have h1 := hρ x (by simp [Op.operands]); have h2 := hρ y (by simp [Op.operands])
    simp only [aop, h1, h2]
  | extract x i => have h1 := hρ x (by simp [Op.operands]); simp only [aop, h1]
  | call c =>
    have ha : ∀ x ∈ c.args.toList, ρ' x = ρ x := fun x hx => hρ x (by simp [Op.operands, Call.operands] at hx ⊢; exact .inr hx)
    simp only [aop] at hok hH ⊢
    split
    · rename_i x t e1 e2 e3
      have h1 := ha x (by rw [e2]; simp)
      simp only [e1, e2, e3, h1] at hok hH ⊢
      cases hx : ρ x with
      | one s =>
        rw [hx] at hok hH
        dsimp only at hok hH ⊢
        cases hl : lenOf P t H s with
        | none => rw [hl] at hok; exact hok.elim
        | some q =>
          obtain ⟨ok, m, rd⟩ := q
          rw [hl] at hH
          rw [lenOf_frame hl hH]
      | _ => rfl
    · rename_i x y t t' e1 e2 e3
      have h1 := ha x (by rw [e2]; simp); have h2 := ha y (by rw [e2]; simp)
      simp only [e1, e2, e3, h1, h2] at hok hH ⊢
      rw [apOp_frame hok.1 hH]
    · rename_i x y e1 e2
      have h1 := ha x (by rw [e2]; simp); have h2 := ha y (by rw [e2]; simp)
      rw [h1, h2]
    · rename_i x y e1 e2
      have h1 := ha x (by rw [e2]; simp); have h2 := ha y (by rw [e2]; simp)
      rw [h1, h2]
    · rfl
  | _ => rfl

theorem ctOp_congr {op : Op} {ρ ρ' : Operand → TV} {n : Nat} (hρ : ∀ x ∈ op.operands.toList, ρ' x = ρ x) : ctOp op ρ' n = ctOp op ρ n := by
  unfold ctOp
  split
  · rename_i c
    split
    · rename_i x y hc hargs
      rw [hρ x (by simp [Op.operands, Call.operands, hargs])]
    · rfl
  · rfl
theorem ctOf_mem {k n k' : Nat} {p : Path} (h : k' ∈ ctOf k n p) : k' = k ∧ 2 ≤ p.length ∧ k ≠ n := by
  unfold ctOf at h
  cases e : Nat.blt 1 p.length && !(Nat.beq k n) with
  | false => rw [e] at h; simp at h
  | true =>
    rw [e] at h
    simp only [cond_true, List.mem_singleton] at h
    simp only [Bool.and_eq_true, Nat.blt_eq, Bool.not_eq_true'] at e
    exact ⟨h, e.1, fun e2 => by rw [e2] at e; simp at e⟩
/-- What an append only cuts below the first row. -/
theorem aop_ct {op : Op} {ρ : Operand → TV} {n : Nat} (hok : (aop P op ρ H n).ok) : ∀ k ∈ ctOp op ρ n, Surf (H k) (lk (H k) (aop P op ρ H n).hu k) := by
  intro k hk
  unfold ctOp at hk
  split at hk
  case h_2 => cases hk
  rename_i c
  split at hk
  case h_2 => cases hk
  rename_i x y hc hargs
  split at hk
  case h_2 => cases hk
  rename_i k0 p vs hx
  obtain ⟨rfl, hp, hn⟩ := ctOf_mem hk
  obtain ⟨t, t', hty⟩ : ∃ t t', c.argTypes.toList = [t, t'] := by
    simp only [aop, hc, hargs] at hok
    match h : c.argTypes.toList with
    | [] => rw [h] at hok; exact hok.elim
    | [t] => rw [h] at hok; exact hok.elim
    | [t, t'] => exact ⟨t, t', rfl⟩
    | _ :: _ :: _ :: _ => rw [h] at hok; exact hok.elim
  simp only [aop, hc, hargs, hty, hx] at hok ⊢
  obtain ⟨hok, _⟩ := hok
  have hold : (apOld P t (.one (.own k p vs)) (ρ y) H n).ok → Surf (H k) (lk (H k) (apOld P t (.one (.own k p vs)) (ρ y) H n).hu k) := by
    intro hok
    unfold apOld at hok ⊢
    split at hok
    · exact hok.elim
    · rename_i e hel
      dsimp only at hok ⊢
      split at hok
      · rename_i s z e1 e2
        cases e1
        split at hok
        · exact hok.elim
        · rename_i ok2 m g rd2 hsrc
          dsimp only at hok ⊢
          split at hok
          · rename_i nl es' l f ea
            have hl := hok.2.1
            simp only [lk, if_neg (Ne.symm hn), if_true]
            exact surf_cut hl.1 hp
          · exact hok.elim
      · exact hok.elim
  unfold apOp at hok ⊢
  split at hok
  · rename_i e s z hel e1 e2
    cases e1
    split at hok
    · rename_i k2 ok2 g hsrc
      unfold apMv at hok ⊢
      dsimp only at hok ⊢
      split at hok
      · rename_i nl es' l f ea
        have hl := hok.2.2.1
        simp only [lk, if_neg (Ne.symm hn), if_true]
        exact surf_cut hl.1 hp
      · exact hok.elim
    · exact hold hok
  · exact hold hok

/-! ### Arguments of calls -/

theorem borS0_frame {s : SV} (h : ∀ k ∈ s.ml0, H' k = H k) : borS0 H' s = borS0 H s := by
  cases s with
  | own k p vs => simp only [borS0, h k (by simp [SV.ml0])]
  | ref k p vs i o => simp only [borS0, h k (by simp [SV.ml0])]
  | view k p vs i o => simp only [borS0, h k (by simp [SV.ml0])]
  | _ => rfl
theorem borL0_frame : ∀ {l : List SV}, (∀ k ∈ SV.mlL0 l, H' k = H k) → borL0 H' l = borL0 H l
  | [], _ => rfl
  | s :: r, h => by simp only [borL0, borS0_frame (s := s) (fun k hk => h k (by simp [SV.mlL0, hk])), borL0_frame (l := r) (fun k hk => h k (by simp [SV.mlL0, hk]))]
theorem borS_frame {s : SV} (h : ∀ k ∈ s.ml, H' k = H k) : borS H' s = borS H s := by
  cases s with
  | clo g l => simp only [borS, borL0_frame (l := l) h]
  | junk => rfl
  | av a => rfl
  | own k p vs => exact borS0_frame (s := .own k p vs) h
  | ref k p vs i o => exact borS0_frame (s := .ref k p vs i o) h
  | view k p vs i o => exact borS0_frame (s := .view k p vs i o) h
theorem borL_frame : ∀ {l : List SV}, (∀ k ∈ SV.mlL l, H' k = H k) → borL H' l = borL H l
  | [], _ => rfl
  | s :: r, h => by simp only [borL, borS_frame (s := s) (fun k hk => h k (by simp [SV.mlL, hk])), borL_frame (l := r) (fun k hk => h k (by simp [SV.mlL, hk]))]
theorem borT_frame {t : TV} (h : ∀ k ∈ t.ml, H' k = H k) : borT H' t = borT H t := by
  cases t with
  | one s => simp only [borT, borS_frame (s := s) h]
  | agg l => simp only [borT, borL_frame (l := l) h]
  | _ => rfl
theorem borA_frame : ∀ {l : List TV}, (∀ k ∈ mlA l, H' k = H k) → borA H' l = borA H l
  | [], _ => rfl
  | t :: r, h => by simp only [borA, borT_frame (t := t) (fun k hk => h k (by simp [mlA, hk])), borA_frame (l := r) (fun k hk => h k (by simp [mlA, hk]))]

end
end Go.AM
/- The framework AM, part D2: a region whose order is open is run in the text's order. -/
namespace Go.AM
open Go
/-- One operation of such a region. -/
inductive Stp (P : Program) (N : Nat) (ops : Array Oper) (o : Oper) (m : Nat) (T : Nat → TV) (H : Nat → OB) : List Nat → TV → List (Nat × OB) → List Nat → Prop
  | op (hg : o.guard = none) (hc : isCall o.op = none) (hf : isField o.op = false) (hd : dOk N o.dst = true) (hok : (aop P o.op (opd T) H m).ok) :
      Stp P N ops o m T H (rdE (aop P o.op (opd T) H m)) (aop P o.op (opd T) H m).v (aop P o.op (opd T) H m).hu (wrE (ctOp o.op (opd T) m) (aop P o.op (opd T) H m).hu)
  | call {f : Operand} {xs : List Operand} {fid : FuncId} {cap : List TV} {r : RV} (hg : o.guard = none) (hc : isCall o.op = some (f, xs)) (hf : fnOf (opd T f) = some (fid, cap)) (hd : dOk N o.dst = true)
      (hb : (borA H (xs.map (opd T) ++ cap)).1) (hcon : ACalls P fid (borA H (xs.map (opd T) ++ cap)).2.2 (fun r' => r' = r)) (hcl : (borA H (xs.map (opd T) ++ cap)).2.1 = true → clAll r.cells) (hl : r.cells.length ≤ 62) :
      Stp P N ops o m T H (dbl (mlA (xs.map (opd T) ++ cap))) (instR (borA H (xs.map (opd T) ++ cap)).2.1 (m + 1) r) (objs (m + 1) r.cells) (dbl (keys (objs (m + 1) r.cells)))
  | gop {g : Nat} {want gc : Bool} {t : TV} {v : TV} {rd : List Nat} (hg : o.guard = some (g, want)) (hc : isCall o.op = none) (ht : (gdst ops g).map T = some t) (hgc : gcond want t = some gc) (hs : simpleOp o.op = true) (hd : dOk N o.dst = true)
      (hok : gc = true → cok (opd T) (coks o.op) ∧ (aop P o.op (gro o.op (opd T)) H m).ok ∧ (aop P o.op (gro o.op (opd T)) H m).v = v ∧ rdE (aop P o.op (gro o.op (opd T)) H m) = rd)
      (hmn : ∀ k, v.mn k → k = m ∨ ∃ x ∈ o.op.operands.toList, (gro o.op (opd T) x).mn k) : Stp P N ops o m T H rd (cndOf gc v) [] []
  | gcall {g : Nat} {want gc : Bool} {t : TV} {f : Operand} {xs : List Operand} {fid : FuncId} {cap : List TV} {b : AT} {rd : List Nat} (hg : o.guard = some (g, want)) (hc : isCall o.op = some (f, xs)) (ht : (gdst ops g).map T = some t) (hgc : gcond want t = some gc)
      (hf : fnOf (opd T f) = some (fid, cap)) (hd : dOk N o.dst = true) (hp : gc = true → gPl (borA H (xs.map (fun x => unc (opd T x)) ++ cap)).2.1 b = true) (hl : b.cells.length ≤ 62)
      (hok : gc = true → cok (opd T) xs ∧ (borA H (xs.map (fun x => unc (opd T x)) ++ cap)).1 ∧ ACalls P fid (borA H (xs.map (fun x => unc (opd T x)) ++ cap)).2.2 (fun r => r = .val b) ∧ dbl (mlA (xs.map (fun x => unc (opd T x)) ++ cap)) = rd) : Stp P N ops o m T H rd (.cnd gc b.cv) [] []

section
variable {P : Program} {N : Nat} {ops : Array Oper} {o : Oper} {m : Nat} {T T' : Nat → TV} {H H' : Nat → OB} {rd wr : List Nat} {v : TV} {hu : List (Nat × OB)}

theorem call_operands {f : Operand} {xs : List Operand} (h : isCall o.op = some (f, xs)) : f ∈ o.op.operands.toList ∧ ∀ x ∈ xs, x ∈ o.op.operands.toList := by
  obtain ⟨c, e1, e2, e3⟩ := isCall_spec h
  rw [e1]
  simp only [Op.operands, Call.operands, e2]
  refine ⟨by simp, fun x hx => ?_⟩
  rw [← e3] at hx
  simp at hx ⊢
  exact .inr hx

theorem dbl_mem : ∀ {l : List Nat} {k : Nat}, k ∈ l → 2 * k ∈ dbl l ∧ 2 * k + 1 ∈ dbl l
  | x :: r, k, h => by
    rcases List.mem_cons.1 h with rfl | h
    · simp [dbl]
    · obtain ⟨h1, h2⟩ := dbl_mem h
      exact ⟨by simp [dbl, h1], by simp [dbl, h2]⟩
theorem sgl_mem : ∀ {l : List Nat} {k : Nat}, k ∈ l → 2 * k ∈ sgl l
  | x :: r, k, h => by
    rcases List.mem_cons.1 h with rfl | h
    · simp [sgl]
    · simp [sgl, sgl_mem h]
theorem memN_mem : ∀ {l : List Nat} {k : Nat}, memN k l = true → k ∈ l
  | x :: r, k, h => by
    simp only [memN, Bool.or_eq_true, Nat.beq_eq] at h
    rcases h with rfl | h
    · simp
    · simp [memN_mem h]
theorem wrE_mem {ct : List Nat} : ∀ {hu : List (Nat × OB)} {k : Nat}, k ∈ keys hu → 2 * k + 1 ∈ wrE ct hu ∧ (2 * k ∈ wrE ct hu ∨ k ∈ ct)
  | (x, o) :: r, k, h => by
    simp only [keys, List.mem_cons] at h
    cases e : memN x ct with
    | true =>
      simp only [wrE, e, cond_true]
      rcases h with rfl | h
      · exact ⟨by simp, .inr (memN_mem e)⟩
      · obtain ⟨h1, h2⟩ := wrE_mem (ct := ct) h
        exact ⟨by simp [h1], h2.imp (fun h => by simp [h]) id⟩
    | false =>
      simp only [wrE, e, cond_false]
      rcases h with rfl | h
      · exact ⟨by simp, .inl (by simp)⟩
      · obtain ⟨h1, h2⟩ := wrE_mem (ct := ct) h
        exact ⟨by simp [h1], h2.imp (fun h => by simp [h]) id⟩

/-- What is written: all of it stands in the list, and what stands there as lower part only keeps its first row. -/
theorem Stp.wrt (h : Stp P N ops o m T H rd v hu wr) : ∀ k ∈ keys hu, 2 * k + 1 ∈ wr ∧ (2 * k ∈ wr ∨ Surf (H k) (lk (H k) hu k)) := by
  intro k hk
  cases h with
  | op hg hc hf hd hok =>
    obtain ⟨h1, h2⟩ := wrE_mem (ct := ctOp o.op (opd T) m) hk
    exact ⟨h1, h2.imp id (fun h => aop_ct hok k h)⟩
  | call _ _ _ _ _ _ _ _ => exact ⟨(dbl_mem hk).2, .inl (dbl_mem hk).1⟩
  | gop _ _ _ _ _ _ _ _ => cases hk
  | gcall _ _ _ _ _ _ _ _ _ => cases hk

theorem Stp.frame (h : Stp P N ops o m T H rd v hu wr) (hT : ∀ s ∈ o.looksAt ops, T' s = T s) (hD : ∀ k, 2 * k + 1 ∈ rd → H' k = H k) (hS : ∀ k, 2 * k ∈ rd → Surf (H k) (H' k)) : Stp P N ops o m T' H' rd v hu wr := by
  have ho : ∀ x ∈ o.op.operands.toList, opd T' x = opd T x := by
    intro x hx
    cases x with
    | tmp s => exact hT s (List.mem_append_left _ (List.mem_filterMap.2 ⟨.tmp s, hx, rfl⟩))
    | _ => rfl
  have hgd : ∀ g want, o.guard = some (g, want) → (gdst ops g).map T' = (gdst ops g).map T := by
    intro g want hg
    unfold gdst
    cases hd : (ops[g]?).bind (·.dst) with
    | none => rfl
    | some d => simp only [Option.map_some]; rw [hT d (List.mem_append_right _ (by rw [hg]; simp [hd]))]
  cases h with
  | op hg hc hf hd hok =>
    have e := aop_frame (H' := H') ho hok (fun k hk => hD k (List.mem_append_left _ (dbl_mem hk).2)) (fun k hk => hS k (List.mem_append_right _ (sgl_mem hk)))
    have e2 : ctOp o.op (opd T') m = ctOp o.op (opd T) m := ctOp_congr ho
    rw [← e] at hok ⊢
    rw [← e2]
    exact .op hg hc hf hd hok
  | call hg hc hf hd hb hcon hcl hl =>
    rename_i f xs fid cap r
    obtain ⟨q1, q2⟩ := call_operands hc
    have e1 : xs.map (opd T') = xs.map (opd T) := List.map_congr_left (fun x hx => ho x (q2 x hx))
    have e2 := borA_frame (H' := H') (H := H) (l := xs.map (opd T) ++ cap) (fun k hk => hD k (dbl_mem hk).2)
    rw [← e2] at hb hcon hcl ⊢
    rw [← e1] at hb hcon hcl ⊢
    exact .call hg hc (by rw [ho f q1]; exact hf) hd hb hcon hcl hl
  | gop hg hc ht hgc hs hd hok hmn =>
    refine .gop hg hc (by rw [hgd _ _ hg]; exact ht) hgc hs hd (fun e => ?_) (fun k hk => ?_)
    · obtain ⟨h1, h2, h3, h4⟩ := hok e
      have e := aop_frame (H' := H') (ρ' := gro o.op (opd T')) (fun x hx => gro_congr (ho x hx)) h2 (fun k hk => hD k (by rw [← h4]; exact List.mem_append_left _ (dbl_mem hk).2)) (fun k hk => hS k (by rw [← h4]; exact List.mem_append_right _ (sgl_mem hk)))
      rw [e]
      refine ⟨?_, h2, h3, h4⟩
      have : ∀ (l : List Operand), (∀ x ∈ l, opd T' x = opd T x) → cok (opd T) l → cok (opd T') l := by
        intro l
        induction l with
        | nil => intro _ _; trivial
        | cons x r ih => intro h1 h2; exact ⟨by rw [h1 x (by simp)]; exact h2.1, ih (fun y hy => h1 y (by simp [hy])) h2.2⟩
      exact this _ (fun x hx => ho x (coks_sub hx)) h1
    · rcases hmn k hk with h | ⟨x, hx, h⟩
      · exact .inl h
      · exact .inr ⟨x, hx, by rw [gro_congr (ho x hx)]; exact h⟩
  | gcall hg hc ht hgc hf hd hp hl hok =>
    rename_i g want gc t f xs fid cap b
    obtain ⟨q1, q2⟩ := call_operands hc
    refine .gcall hg hc (by rw [hgd _ _ hg]; exact ht) hgc (by rw [ho _ q1]; exact hf) hd (fun e => by
      obtain ⟨h1, h2, h3, h4⟩ := hok e
      have e1 : xs.map (fun x => unc (opd T' x)) = xs.map (fun x => unc (opd T x)) := List.map_congr_left (fun x hx => by simp only [ho x (q2 x hx)])
      have e2 := borA_frame (H' := H') (H := H) (l := xs.map (fun x => unc (opd T x)) ++ cap) (fun k hk => hD k (by rw [← h4]; exact (dbl_mem hk).2))
      rw [e1, e2]
      exact hp e) hl (fun e => ?_)
    obtain ⟨h1, h2, h3, h4⟩ := hok e
    have e1 : xs.map (fun x => unc (opd T' x)) = xs.map (fun x => unc (opd T x)) := List.map_congr_left (fun x hx => by simp only [ho x (q2 x hx)])
    have e2 := borA_frame (H' := H') (H := H) (l := xs.map (fun x => unc (opd T x)) ++ cap) (fun k hk => hD k (by rw [← h4]; exact (dbl_mem hk).2))
    rw [e1, e2]
    refine ⟨?_, h2, h3, h4⟩
    have : ∀ (l : List Operand), (∀ x ∈ l, opd T' x = opd T x) → cok (opd T) l → cok (opd T') l := by
      intro l
      induction l with
      | nil => intro _ _; trivial
      | cons x r ih => intro h1 h2; exact ⟨by rw [h1 x (by simp)]; exact h2.1, ih (fun y hy => h1 y (by simp [hy])) h2.2⟩
    exact this _ (fun x hx => ho x (q2 x hx)) h1
end

section
variable {N : Nat} {w0 : World} {E A : Nat → Prop} {F : Frm} {T : Nat → TV} {H : Nat → OB} {a : Act} {w : World} {own : Own} {rt : Rt} {P : Program} {o : Oper} {m : Nat} {ops : Array Oper} {rd wr : List Nat} {v : TV} {hu : List (Nat × OB)} {Q : Exit → Act → World → Prop}

theorem SRf.grow (h : SRf N w0 E F A T H a w own rt) (n : Nat) : SRf N w0 E F (fun k => A k ∨ k = n) T H a w own rt :=
  ⟨h.toWRf.more n, h.defers, h.size, h.tmp, fun s k hk => .inl (h.men s k hk), fun k v e => ⟨.inl (h.frz k v e).1, (h.frz k v e).2⟩⟩

theorem Stp.sound {j : Nat} {K : Act → World → Prop} (hs : SRf N w0 E F A T H a w own rt) (hA : ∀ k, m ≤ k → k ≤ m + 63 → ¬ A k) (hj : ops[j]? = some o) (h : Stp P N ops o m T H rd v hu wr)
    (next : ∀ A' a' w' own' rt', SRf N w0 E F A' (updT T o.dst v) (updH H hu) a' w' own' rt' → (∀ k, A' k → A k ∨ (m ≤ k ∧ k ≤ m + 63)) → K a' w') : wpOp P ops Q j K a w := by
  unfold wpOp
  rw [hj]
  dsimp only
  cases h with
  | op hg hc hf hd hok =>
    obtain ⟨v, w', own', rt', hrun, hs'⟩ := did_op hs (dOk_lt hd) (hA _ (Nat.le_refl _) (by omega)) (isField_ne hf) hok
    have hw : Region.wanted o (yielded ops a.tmps) = true := by unfold Region.wanted; rw [hg]
    rw [hw, if_pos rfl]
    left
    have hn := next _ _ _ _ _ hs' (fun k hk => by
      rcases hk with e | e
      · exact .inl e
      · exact .inr (by omega))
    unfold Oper.wp
    rcases hrun with hrun | ⟨hrun, rfl⟩
    · rw [hrun, Oper.upon_value]; exact hn
    · rw [hrun, Oper.upon_skip]; exact hn
  | call hg hc hf hd hb hcon hcl hl =>
    have hw : Region.wanted o (yielded ops a.tmps) = true := by unfold Region.wanted; rw [hg]
    rw [hw, if_pos rfl]
    left
    refine call_made hs hc hf rfl hb hcon (fun own0 w' v rv h0 hr hgv => ?_)
    subst hr
    obtain ⟨A', own'', rt'', q1, q2⟩ := ret_sound hs (fun k h1 h2 => hA k h1 (by omega)) h0 hgv hcl (dOk_lt hd)
    refine next _ _ _ _ _ q1 (fun k hk => ?_)
    rcases q2 k hk with e | e
    · exact .inl e
    · exact .inr (by omega)
  | gop hg hc ht hgc hsm hd hok hmn =>
    rename_i g want gc t v
    cases hgd : gdst ops g with
    | none => rw [hgd] at ht; cases ht
    | some d =>
      rw [hgd] at ht
      simp only [Option.map_some, Option.some.injEq] at ht
      have hw := gcond_sound (o := o) hgd (by rw [← ht]; exact hs.tmp d) hgc hg
      rw [hw]
      have h2 := hs.grow m
      have hm : ∀ k, (cndOf gc v).mn k → A k ∨ k = m := fun k hk => by
        have : v.mn k := by
          exact cndOf_mn hk
        rcases hmn k this with e | ⟨x, _, hx⟩
        · exact .inr e
        · exact .inl (opd_men hs x k (gro_mn hx))
      have fin : ∀ u, RelT w own rt H (cndOf gc v) u → K (a.put o.dst u) w := fun u hu =>
        next _ _ _ _ _ (h2.put (dOk_lt hd) hu hm) (fun k hk => by
          rcases hk with e | e
          · exact .inl e
          · exact .inr (by omega))
      cases gc with
      | true =>
        rw [if_pos rfl]
        left
        obtain ⟨hc, hok, hv, hr⟩ := hok rfl
        obtain ⟨u, h3, h4, _⟩ := guard_pure hs hsm hc hok
        unfold Oper.wp
        rw [h3, Oper.upon_value]
        refine fin u ?_
        rw [hv] at h4
        exact cndOf_true h4
      | false =>
        rw [if_neg (by simp)]
        exact fin undef cndOf_false
  | gcall hg hcl ht hgc hf hd hp hl hok =>
    rename_i g want gc t f xs fid cap b
    cases hgd : gdst ops g with
    | none => rw [hgd] at ht; cases ht
    | some d =>
      rw [hgd] at ht
      simp only [Option.map_some, Option.some.injEq] at ht
      have hw := gcond_sound (o := o) hgd (by rw [← ht]; exact hs.tmp d) hgc hg
      rw [hw]
      cases gc with
      | true =>
        rw [if_pos rfl]
        left
        obtain ⟨hc, hb, hcon, _⟩ := hok rfl
        have hL : xs.map (fun x => unc (opd T x)) ++ cap = xs.map (opd (uncT T)) ++ cap := by
          congr 1
          exact List.map_congr_left (fun x hx => (opd_unc (cok_mem hc x hx)).symm)
        have hf' : fnOf (opd (uncT T) f) = some (fid, cap) := by
          have : cok1 (opd T f) := by
            cases hh : opd T f with
            | cnd b s => rw [hh] at hf; simp [fnOf] at hf
            | _ => trivial
          rw [opd_unc this]
          cases hh : opd T f with
          | cnd b s => rw [hh] at hf; simp [fnOf] at hf
          | _ => rw [hh] at hf; exact hf
        refine call_made hs.unc hcl hf' hL hb hcon (fun own0 w' v rv h0 hr hgv => ?_)
        subst hr
        have e0 : (RV.val b).cells.length = b.cells.length := rfl
        obtain ⟨A', own'', rt'', q1, q2⟩ := ret_cnd hs (fun k h1 h2 => hA k h1 (by omega)) h0 hgv (hp rfl) (d := o.dst) (dOk_lt hd)
        refine next _ _ _ _ _ q1 (fun k hk => ?_)
        rcases q2 k hk with e | e
        · exact .inl e
        · exact .inr (by omega)
      | false =>
        rw [if_neg (by simp)]
        have hrel : RelT w own rt H (.cnd false b.cv) undef := ⟨(fun e => by cases e), fun _ => rfl⟩
        exact next _ _ _ _ _ (hs.put (dOk_lt hd) hrel (fun k hk => (cv_mn hk).elim)) (fun k hk => .inl hk)
end

/-! ### The text's order -/

def textK (P : Program) (N : Nat) (ops : Array Oper) (b : Nat) (Kf : (Nat → TV) → (Nat → OB) → Prop) : List (Nat × Oper) → List Ent → (Nat → TV) → (Nat → OB) → Prop
  | [], log, T, H => List.Pairwise (fun x y => apartE ops.toList x y = true) log ∧ Kf T H
  | (j, o) :: r, log, T, H => ∃ rd v hu wr, Stp P N ops o (b + 64 * j) T H rd v hu wr ∧ textK P N ops b Kf r (log ++ [⟨j, rd, wr⟩]) (updT T o.dst v) (updH H hu)

section
variable {P : Program} {N : Nat} {ops : Array Oper} {b : Nat} {Kf : (Nat → TV) → (Nat → OB) → Prop}

theorem textK_sub : ∀ {l : List (Nat × Oper)} {log log' : List Ent} {T : Nat → TV} {H : Nat → OB}, log'.Sublist log → textK P N ops b Kf l log T H → textK P N ops b Kf l log' T H
  | [], log, log', T, H, hs, h => ⟨h.1.sublist hs, h.2⟩
  | (j, o) :: r, log, log', T, H, hs, h => by
    obtain ⟨rd, v, hu, wr, h1, h2⟩ := h
    exact ⟨rd, v, hu, wr, h1, textK_sub (hs.append (List.Sublist.refl _)) h2⟩

theorem textK_log : ∀ {l : List (Nat × Oper)} {log : List Ent} {T : Nat → TV} {H : Nat → OB}, textK P N ops b Kf l log T H → List.Pairwise (fun x y => apartE ops.toList x y = true) log
  | [], log, T, H, h => h.1
  | (j, o) :: r, log, T, H, h => by
    obtain ⟨rd, v, hu, wr, h1, h2⟩ := h
    exact (textK_log h2).sublist (List.sublist_append_left _ _)

theorem keys_lk : ∀ {hu : List (Nat × OB)} {k : Nat} {d : OB}, k ∉ keys hu → lk d hu k = d
  | [], k, d, _ => rfl
  | (x, o) :: r, k, d, h => by
    simp only [keys, List.mem_cons, not_or] at h
    simp only [lk, if_neg (Ne.symm h.1)]
    exact keys_lk h.2

theorem disj_mem {x y : List Nat} (h : disj x y = true) {k : Nat} (hx : k ∈ x) (hy : k ∈ y) : False := by
  simp only [disj, List.all_eq_true] at h
  have := h k hx k hy
  simp at this

theorem updT_ne {T : Nat → TV} {d : Option Tmp} {v : TV} {s : Nat} (h : d ≠ some s) : updT T d v s = T s := by
  cases d with
  | none => rfl
  | some x =>
    have : x ≠ s := fun e => h (by rw [e])
    simp only [updT]
    first
      | rw [if_neg this]
      | rw [if_neg (Ne.symm this)]
      | (simp [this]; done)

theorem updT_comm {T : Nat → TV} {d e : Option Tmp} {v u : TV} (h : ∀ x, d = some x → e ≠ some x) : updT (updT T d v) e u = updT (updT T e u) d v := by
  funext s
  by_cases hd : d = some s
  · have he : e ≠ some s := h s hd
    rw [updT_ne he, hd]
    cases e with
    | none => rfl
    | some x => simp [updT]
  · rw [updT_ne (T := updT T e u) hd]
    by_cases he : e = some s
    · rw [he]; simp [updT]
    · rw [updT_ne he, updT_ne he, updT_ne hd]

theorem updH_comm {H : Nat → OB} {x y : List (Nat × OB)} (h : disj (keys x) (keys y) = true) : updH (updH H x) y = updH (updH H y) x := by
  funext k
  simp only [updH]
  by_cases hx : k ∈ keys x
  · have hy : k ∉ keys y := fun hy => disj_mem h hx hy
    rw [keys_lk hy, keys_lk (d := H k) hy]
  · rw [keys_lk (d := H k) hx]
    rw [keys_lk hx]

theorem textK_move {j : Nat} {o : Oper} {post : List (Nat × Oper)} : ∀ {pre : List (Nat × Oper)} {log : List Ent} {T : Nat → TV} {H : Nat → OB}, (∀ x ∈ pre, waitsT ops.toList 4 j x.1 = false ∧ x.2.apart ops o = true) →
    textK P N ops b Kf (pre ++ (j, o) :: post) log T H →
    ∃ rd v hu wr, Stp P N ops o (b + 64 * j) T H rd v hu wr ∧ textK P N ops b Kf (pre ++ post) log (updT T o.dst v) (updH H hu) ∧ List.Pairwise (fun x y => apartE ops.toList x y = true) (log ++ [⟨j, rd, wr⟩]) := by
  intro pre
  induction pre with
  | nil =>
    intro log T H _ h
    obtain ⟨rd, v, hu, wr, h1, h2⟩ := h
    exact ⟨rd, v, hu, wr, h1, textK_sub (List.sublist_append_left _ _) h2, textK_log h2⟩
  | cons x pre ih =>
    obtain ⟨i, oi⟩ := x
    intro log T H hp h
    obtain ⟨rdi, vi, hui, wri, h1, h2⟩ := h
    obtain ⟨rd, v, hu, wr, g1, g2, g3⟩ := ih (fun x hx => hp x (by simp [hx])) h2
    obtain ⟨w1, w2⟩ := hp (i, oi) (by simp)
    have hap : apartE ops.toList ⟨i, rdi, wri⟩ ⟨j, rd, wr⟩ = true := by
      have := List.pairwise_append.1 g3
      exact this.2.2 _ (by simp) _ (by simp)
    simp only [apartE, w1, Bool.false_or, Bool.and_eq_true] at hap
    obtain ⟨⟨d1, d2⟩, d3⟩ := hap
    obtain ⟨a1, a2, a3⟩ := Oper.apart_spec w2
    have s1 : Stp P N ops o (b + 64 * j) T H rd v hu wr := g1.frame (fun s hs => (updT_ne (fun e => a1 s e hs)).symm) (fun k hk => by
      simp only [updH]; exact (keys_lk (fun e => disj_mem d1 (h1.wrt k e).1 hk)).symm) (fun k hk => by
      simp only [updH]
      by_cases e : k ∈ keys hui
      · exact ((h1.wrt k e).2.resolve_left (fun e2 => disj_mem d1 e2 hk)).symm
      · rw [keys_lk e]; exact .refl _)
    have s2 : Stp P N ops oi (b + 64 * i) (updT T o.dst v) (updH H hu) rdi vi hui wri := h1.frame (fun s hs => updT_ne (fun e => a3 s e hs)) (fun k hk => by
      simp only [updH]; exact keys_lk (fun e => disj_mem d3 hk (s1.wrt k e).1)) (fun k hk => by
      simp only [updH]
      by_cases e : k ∈ keys hu
      · exact (s1.wrt k e).2.resolve_left (fun e2 => disj_mem d3 hk e2)
      · rw [keys_lk e]; exact .refl _)
    refine ⟨rd, v, hu, wr, s1, ⟨rdi, vi, hui, wri, s2, ?_⟩, g3.sublist ?_⟩
    · rw [updT_comm (d := o.dst) (e := oi.dst) (fun x hx e => a2 x e hx), updH_comm (x := hu) (y := hui) (by
        simp only [disj, List.all_eq_true]
        intro x hx y hy
        cases e : Nat.beq x y with
        | false => rfl
        | true =>
          rw [Nat.eq_of_beq_eq_true e] at hx
          exact (disj_mem d2 (h1.wrt y hy).1 (s1.wrt y hx).1).elim)]
      exact g2
    · rw [List.append_assoc]
      exact List.Sublist.append_left (List.sublist_append_right _ _) _

/-! ### Any order -/

def unl (listed : Array Bool) (x : Nat × Oper) : Bool := !listed.getD x.1 true

theorem zipN_spec : ∀ {l : List Oper} {n : Nat} {x : Nat × Oper}, x ∈ zipN n l ↔ n ≤ x.1 ∧ l[x.1 - n]? = some x.2
  | [], n, x => by simp [zipN]
  | o :: r, n, x => by
    obtain ⟨j, y⟩ := x
    simp only [zipN, List.mem_cons, Prod.mk.injEq]
    rw [zipN_spec]
    dsimp only
    constructor
    · rintro (⟨rfl, rfl⟩ | ⟨h1, h2⟩)
      · simp
      · refine ⟨by omega, ?_⟩
        rw [show j - n = (j - (n + 1)) + 1 by omega]
        simpa using h2
    · rintro ⟨h1, h2⟩
      by_cases e : j = n
      · subst e
        left
        simp at h2
        exact ⟨rfl, h2.symm⟩
      · right
        refine ⟨by omega, ?_⟩
        rw [show j - n = (j - (n + 1)) + 1 by omega] at h2
        simpa using h2

theorem unl_split {listed : Array Bool} {j : Nat} {o : Oper} (hlt : j < listed.size) (hj : listed.getD j true = false) : ∀ {l : List Oper} {n : Nat}, (j, o) ∈ zipN n l →
    ∃ pre post, (zipN n l).filter (unl listed) = pre ++ (j, o) :: post ∧ (zipN n l).filter (unl (listed.setIfInBounds j true)) = pre ++ post ∧ ∀ x ∈ pre, x.1 < j ∧ x ∈ zipN n l ∧ listed.getD x.1 true = false
  | [], n, h => by cases h
  | y :: r, n, h => by
    have hset : ∀ i, i ≠ j → (listed.setIfInBounds j true).getD i true = listed.getD i true := fun i hi => by
      simp [Array.getElem?_setIfInBounds_ne (Ne.symm hi)]
    by_cases e : n = j
    · subst e
      have ho : o = y := by
        simp only [zipN, List.mem_cons, Prod.mk.injEq] at h
        rcases h with ⟨_, h⟩ | h
        · exact h
        · have := (zipN_spec.1 h).1; simp at this; omega
      subst ho
      refine ⟨[], (zipN (n + 1) r).filter (unl listed), ?_, ?_, fun x hx => by cases hx⟩
      · simp only [zipN]
        rw [List.filter_cons_of_pos (by simp only [unl, hj, Bool.not_false])]
        rfl
      · simp only [zipN]
        rw [List.filter_cons_of_neg (by simp [unl, hlt])]
        refine List.filter_congr (fun x hx => ?_)
        have := (zipN_spec.1 hx).1
        simp only [unl]
        rw [hset x.1 (by omega)]
    · have h' : (j, o) ∈ zipN (n + 1) r := by
        simp only [zipN, List.mem_cons, Prod.mk.injEq] at h
        rcases h with ⟨h, _⟩ | h
        · exact absurd h.symm e
        · exact h
      obtain ⟨pre, post, h1, h2, h3⟩ := unl_split hlt hj h'
      have hnj : n < j := by have := (zipN_spec.1 h').1; simp at this; omega
      by_cases hu : unl listed (n, y) = true
      · refine ⟨(n, y) :: pre, post, ?_, ?_, ?_⟩
        · simp only [zipN]; rw [List.filter_cons_of_pos hu, h1]; rfl
        · simp only [zipN]
          have hu' : unl (listed.setIfInBounds j true) (n, y) = true := by
            simp only [unl] at hu ⊢; rw [hset n (by omega)]; exact hu
          rw [List.filter_cons_of_pos hu', h2]; rfl
        · intro x hx
          rcases List.mem_cons.1 hx with rfl | hx
          · refine ⟨hnj, by simp [zipN], by simpa [unl] using hu⟩
          · obtain ⟨q1, q2, q3⟩ := h3 x hx
            exact ⟨q1, by simp [zipN, q2], q3⟩
      · refine ⟨pre, post, ?_, ?_, ?_⟩
        · simp only [zipN]; rw [List.filter_cons_of_neg hu, h1]
        · simp only [zipN]
          have hu' : ¬ unl (listed.setIfInBounds j true) (n, y) = true := by
            simp only [unl] at hu ⊢; rw [hset n (by omega)]; exact hu
          rw [List.filter_cons_of_neg hu', h2]
        · intro x hx
          obtain ⟨q1, q2, q3⟩ := h3 x hx
          exact ⟨q1, by simp [zipN, q2], q3⟩

theorem pairsB_get {all : List Oper} : ∀ {l : List (Nat × Oper)} {n : Nat} {r : List Oper}, l = zipN n r → pairsB ops all l = true → ∀ x ∈ l, ∀ y ∈ l, x.1 < y.1 → opB ops all x y = true := by
  intro l
  induction l with
  | nil => intro n r _ _ x hx; cases hx
  | cons z l ih =>
    intro n r hr h x hx y hy hxy
    cases r with
    | nil => simp [zipN] at hr
    | cons o r =>
      simp only [zipN, List.cons.injEq] at hr
      obtain ⟨rfl, hr⟩ := hr
      simp only [pairsB, Bool.and_eq_true, List.all_eq_true] at h
      rcases List.mem_cons.1 hx with rfl | hx
      · rcases List.mem_cons.1 hy with rfl | hy
        · omega
        · exact h.1 y hy
      · rcases List.mem_cons.1 hy with rfl | hy
        · rw [hr] at hx
          have := (zipN_spec.1 hx).1
          simp at hxy; omega
        · exact ih hr h.2 x hx y hy hxy

theorem edgesB_get : ∀ {l : List (Nat × Oper)}, edgesB l = true → ∀ x ∈ l, ∀ e ∈ x.2.after, Region.binds .any e = true → e.on < x.1
  | [], _, x, hx => by cases hx
  | (j, o) :: r, h, x, hx => by
    simp only [edgesB, Bool.and_eq_true, List.all_eq_true] at h
    rcases List.mem_cons.1 hx with rfl | hx
    · intro e he hb
      have := h.1.1 e (by simpa using he)
      simp only [hb, Bool.not_true, Bool.false_or] at this
      exact Nat.le_of_ble_eq_true this
    · exact edgesB_get h.2 x hx
end

section
variable {N : Nat} {w0 : World} {E : Nat → Prop} {F : Frm} {P : Program} {ops : Array Oper} {b : Nat} {Kf : (Nat → TV) → (Nat → OB) → Prop} {Q : Exit → Act → World → Prop}

theorem getD_set {l : Array Bool} {j : Nat} (h : j < l.size) (k : Nat) : (l.setIfInBounds j true).getD k false = if k = j then true else l.getD k false := by
  rw [Array.getD_eq_getD_getElem?, Array.getD_eq_getD_getElem?, Array.getElem?_setIfInBounds]
  by_cases e : j = k
  · subst e; simp [h]
  · rw [if_neg e, if_neg (fun h => e h.symm)]
theorem waitsT_listed {listed : Array Bool} (hcl : ∀ k i, listed.getD k false = true → waits ops.toList k i = true → listed.getD i false = true) : ∀ (f j i : Nat), (∀ i, waits ops.toList j i = true → listed.getD i false = true) → waitsT ops.toList f j i = true → listed.getD i false = true
  | 0, _, _, _, h => by cases h
  | f + 1, j, i, hj, h => by
    simp only [waitsT] at h
    split at h
    · rename_i o ho
      simp only [List.any_eq_true, Bool.and_eq_true, Bool.or_eq_true, Nat.beq_eq] at h
      obtain ⟨e, he, hb, hon⟩ := h
      have hl : listed.getD e.on false = true := hj e.on (by
        unfold waits
        rw [ho]
        simp only [List.any_eq_true, Bool.and_eq_true]
        exact ⟨e, he, hb, by simp⟩)
      rcases hon with rfl | hon
      · exact hl
      · exact waitsT_listed hcl f e.on i (fun i' h' => hcl e.on i' hl h') hon
    · cases h
theorem any_sound (hdr : drawB ops = true) (hQ : ∀ A T H a w own rt, Kf T H → SRf N w0 E F A T H a w own rt → (∀ k, b + 64 * ops.size ≤ k → ¬ A k) → Q .normal a w) :
    ∀ (fuel : Nat) (listed : Array Bool) (A : Nat → Prop) (T : Nat → TV) (H : Nat → OB) (a : Act) (w : World) (own : Own) (rt : Rt), listed.size = ops.size → (∀ k i, listed.getD k false = true → waits ops.toList k i = true → listed.getD i false = true) →
      ((zipN 0 ops.toList).filter (unl listed)).length ≤ fuel → textK P N ops b Kf ((zipN 0 ops.toList).filter (unl listed)) [] T H → SRf N w0 E F A T H a w own rt →
      (∀ x ∈ (zipN 0 ops.toList).filter (unl listed), ∀ k, b + 64 * x.1 ≤ k → k ≤ b + 64 * x.1 + 63 → ¬ A k) → (∀ k, b + 64 * ops.size ≤ k → ¬ A k) → wpAny P .any ops Q fuel listed a w := by
  simp only [drawB, Bool.and_eq_true] at hdr
  obtain ⟨hpairs, hedges⟩ := hdr
  have hready : ∀ (listed : Array Bool) (j : Nat), listed.size = ops.size → j ∈ Region.ready .any ops listed → j < listed.size ∧ listed.getD j true = false ∧ ∃ o, ops[j]? = some o ∧ (j, o) ∈ zipN 0 ops.toList ∧ ∀ i, waits ops.toList j i = true → listed.getD i false = true := by
    intro listed j hsz hj
    obtain ⟨h0, o, ho, hall⟩ := mem_ready.1 hj
    refine ⟨by rw [hsz]; exact (Array.getElem?_eq_some_iff.1 ho).1, h0, o, ho, zipN_spec.2 ⟨Nat.zero_le _, by simpa using ho⟩, fun i hi => ?_⟩
    unfold waits at hi
    have ho' : ops.toList[j]? = some o := by simpa using ho
    rw [ho'] at hi
    simp only [List.any_eq_true, Bool.and_eq_true] at hi
    obtain ⟨e, he, hb, hon⟩ := hi
    have := hall e (by simpa using he) hb
    rw [Nat.eq_of_beq_eq_true hon] at this
    exact this
  have hrem : ∀ (listed : Array Bool), listed.size = ops.size → Region.ready .any ops listed = [] → (zipN 0 ops.toList).filter (unl listed) = [] := by
    intro listed hsz hnil
    cases hl : (zipN 0 ops.toList).filter (unl listed) with
    | nil => rfl
    | cons x r =>
      exfalso
      have hx : x ∈ (zipN 0 ops.toList).filter (unl listed) := by rw [hl]; simp
      obtain ⟨j, o⟩ := x
      obtain ⟨hx1, hx2⟩ := List.mem_filter.1 hx
      have hoj := (zipN_spec.1 hx1).2
      simp only [Nat.sub_zero] at hoj
      have : j ∈ Region.ready .any ops listed := by
        refine mem_ready.2 ⟨by simpa [unl] using hx2, o, by simpa using hoj, fun e he hb => ?_⟩
        have hlt := edgesB_get hedges (j, o) hx1 e he hb
        dsimp only at hlt
        cases hL : listed.getD e.on false with
        | true => rfl
        | false =>
          exfalso
          have hjs : j < ops.toList.length := (List.getElem?_eq_some_iff.1 hoj).1
          have hes : e.on < ops.toList.length := by omega
          have he2 : (e.on, ops.toList[e.on]) ∈ (zipN 0 ops.toList).filter (unl listed) := by
            refine List.mem_filter.2 ⟨zipN_spec.2 ⟨Nat.zero_le _, by simp⟩, ?_⟩
            have hsz2 : e.on < listed.size := by rw [hsz]; simpa using hes
            simp [unl, hsz2] at hL ⊢
            exact hL
          -- the filtered list begins with j, and is increasing
          have hinc : ∀ (l : List Oper) (n : Nat) (y : Nat × Oper) (rest : List (Nat × Oper)), (zipN n l).filter (unl listed) = y :: rest → ∀ z ∈ (zipN n l).filter (unl listed), y.1 ≤ z.1 := by
            intro l
            induction l with
            | nil => intro n y rest h; simp [zipN] at h
            | cons q l ih =>
              intro n y rest h z hz
              simp only [zipN] at h hz
              by_cases hu : unl listed (n, q) = true
              · rw [List.filter_cons_of_pos hu] at h hz
                cases h
                rcases List.mem_cons.1 hz with rfl | hz
                · exact Nat.le_refl _
                · have := (zipN_spec.1 (List.mem_filter.1 hz).1).1
                  dsimp only; omega
              · rw [List.filter_cons_of_neg hu] at h hz
                exact ih (n + 1) y rest h z hz
          have := hinc _ _ _ _ hl _ he2
          dsimp only at this
          omega
      rw [hnil] at this
      cases this
  intro fuel
  induction fuel with
  | zero =>
    intro listed A T H a w own rt hsz hcl hlen htk hs hfree hfree2
    have hnil : (zipN 0 ops.toList).filter (unl listed) = [] := List.length_eq_zero_iff.1 (Nat.le_zero.1 hlen)
    rw [hnil] at htk
    refine ⟨?_, hQ A T H a w own rt htk.2 hs hfree2⟩
    cases hr : Region.ready .any ops listed with
    | nil => rfl
    | cons j r =>
      obtain ⟨h1, h2, o, h3, h4, _⟩ := hready listed j hsz (by rw [hr]; simp)
      have : (j, o) ∈ (zipN 0 ops.toList).filter (unl listed) := List.mem_filter.2 ⟨h4, by simp only [unl, h2, Bool.not_false]⟩
      rw [hnil] at this
      cases this
  | succ fuel ih =>
    intro listed A T H a w own rt hsz hcl hlen htk hs hfree hfree2
    refine ⟨fun hnil => ?_, fun j hj => ?_⟩
    · have := hrem listed hsz hnil
      rw [this] at htk
      exact hQ A T H a w own rt htk.2 hs hfree2
    · obtain ⟨h1, h2, o, h3, h4, h5⟩ := hready listed j hsz hj
      obtain ⟨pre, post, e1, e2, e3⟩ := unl_split h1 h2 h4
      rw [e1] at htk
      obtain ⟨rd, v, hu, wr, g1, g2, _⟩ := textK_move (fun x hx => by
        obtain ⟨q1, q2, q3⟩ := e3 x hx
        have hw : waits ops.toList j x.1 = false := by
          cases hw : waits ops.toList j x.1 with
          | false => rfl
          | true =>
            have h6 := h5 x.1 hw
            have hlt : x.1 < listed.size := by omega
            simp [hlt] at h6 q3
            rw [h6] at q3
            cases q3
        have hwT : waitsT ops.toList 4 j x.1 = false := by
          cases hwT : waitsT ops.toList 4 j x.1 with
          | false => rfl
          | true =>
            have h6 := waitsT_listed hcl 4 j x.1 h5 hwT
            have hlt : x.1 < listed.size := by omega
            simp [hlt] at h6 q3
            rw [h6] at q3
            cases q3
        refine ⟨hwT, ?_⟩
        have := pairsB_get rfl hpairs x q2 (j, o) h4 q1
        simp only [opB, hw, Bool.false_or] at this
        exact this) htk
      refine g1.sound hs (fun k hk1 hk2 => hfree (j, o) (by rw [e1]; simp) k hk1 (by dsimp only; omega)) h3 (fun A' a' w' own' rt' hs' hA' => ?_)
      have hsub : ∀ x ∈ pre ++ post, x ∈ (zipN 0 ops.toList).filter (unl listed) ∧ x.1 ≠ j := by
        intro x hx
        refine ⟨by rw [e1]; rcases List.mem_append.1 hx with h | h <;> simp [h], fun e => ?_⟩
        rw [← e2] at hx
        have := (List.mem_filter.1 hx).2
        rw [unl, e] at this
        simp [h1] at this
      refine ih (listed.setIfInBounds j true) A' _ _ a' w' own' rt' (by simpa using hsz) (fun k i hk hw => by
        rw [getD_set h1] at hk ⊢
        by_cases e : i = j
        · rw [if_pos e]
        · rw [if_neg e]
          by_cases ek : k = j
          · subst ek; exact h5 i hw
          · rw [if_neg ek] at hk; exact hcl k i hk hw) (by rw [e2]; rw [e1] at hlen; simp at hlen ⊢; omega) (by rw [e2]; exact g2) hs' (fun x hx k hk1 hk2 hk => ?_) (fun k hk1 hk => ?_)
      · rw [e2] at hx
        obtain ⟨q1, q2⟩ := hsub x hx
        rcases hA' k hk with h | h
        · exact hfree x q1 k hk1 hk2 h
        · have : x.1 = j := by omega
          exact q2 this
      · rcases hA' k hk with h | h
        · exact hfree2 k hk1 h
        · have : j < ops.size := by rw [← hsz]; exact h1
          have : 64 * (j + 1) ≤ 64 * ops.size := Nat.mul_le_mul_left _ this
          omega
end

/-! ### The run, as the machine's -/

section
variable {P : Program} {N : Nat} {ops : Array Oper} {k : List It → St → Prop} {K : List It}

theorem logB_pairwise {all : List Oper} : ∀ {l : List Ent}, logB all l = true → List.Pairwise (fun x y => apartE all x y = true) l
  | [], _ => .nil
  | x :: r, h => by
    simp only [logB, Bool.and_eq_true, List.all_eq_true] at h
    exact .cons h.1 (logB_pairwise h.2)

theorem aop_mn2 {op : Op} (hs : simpleOp op = true) (ρ : Operand → TV) (H : Nat → OB) (n k : Nat) (h : (aop P op ρ H n).v.mn k) : k = n ∨ ∃ x ∈ op.operands.toList, (ρ x).mn k := by
  classical
  have e : aop P op ρ H n = aop P op (fun x => if x ∈ op.operands.toList then ρ x else .junk) H n := aop_congr hs (fun x hx => by rw [if_pos hx])
  rw [e] at h
  rcases aop_mn _ _ _ _ _ h with h | ⟨x, hx⟩
  · exact .inl h
  · by_cases hm : x ∈ op.operands.toList
    · rw [if_pos hm] at hx; exact .inr ⟨x, hm, hx⟩
    · rw [if_neg hm] at hx; exact hx.elim

theorem drun_text {b e : Nat} : ∀ {l : List Oper} {i : Nat} {log : List Ent} {σ : St}, σ.n = b + 64 * i → i + l.length = e → drun P N ops k K (zipN i l) log σ →
    textK P N ops b (fun T H => ∃ σ', σ'.T = T ∧ σ'.H = H ∧ σ'.n = b + 64 * e ∧ k K σ') (zipN i l) log σ.T σ.H
  | [], i, log, σ, hn, he, h => by
    simp only [List.length_nil, Nat.add_zero] at he
    exact ⟨logB_pairwise h.1, σ, rfl, rfl, by rw [hn, he], h.2⟩
  | o :: r, i, log, σ, hn, he, h => by
    have he' : i + 1 + r.length = e := by simp at he; omega
    have hput : ∀ (v : TV) (hu : List (Nat × OB)), (σ.put o.dst v hu (σ.n + 64)).n = b + 64 * (i + 1) := fun v hu => by
      show σ.n + 64 = _
      omega
    simp only [zipN, drun] at h
    show textK P N ops b _ ((i, o) :: zipN (i + 1) r) log σ.T σ.H
    split at h
    · rename_i hg hc
      obtain ⟨h1, h2, h3, h4⟩ := h
      have := drun_text (hput _ _) he' h4
      rw [put_T, put_H] at this
      rw [hn] at h3 this
      exact ⟨_, _, _, _, .op hg hc h1 h2 h3, this⟩
    · rename_i f xs hg hc
      split at h
      · rename_i fid cap hf
        obtain ⟨h1, h2, r0, h3, h4, h5, h6⟩ := h
        have := drun_text (hput _ _) he' h6
        rw [put_T, put_H] at this
        rw [hn] at this
        exact ⟨_, _, _, _, .call hg hc hf h1 h2 h3 h4 (Nat.le_of_ble_eq_true h5), this⟩
      · exact h.elim
    · rename_i g want hg hc
      split at h
      · rename_i t ht
        split at h
        · rename_i gc hgc
          obtain ⟨h1, h2, h3, h4⟩ := h
          have := drun_text (hput _ _) he' h4
          rw [put_T, put_H] at this
          rw [hn] at this h3
          exact ⟨_, _, _, _, .gop hg hc ht hgc h1 h2 (fun e => ⟨(h3 e).1, (h3 e).2, rfl, rfl⟩) (fun k hk => aop_mn2 h1 _ _ _ _ hk), this⟩
        · exact h.elim
      · exact h.elim
    · rename_i g want f xs hg hc
      split at h
      · rename_i t fid cap ht hf
        split at h
        · rename_i gc hgc
          obtain ⟨h1, h2, a, h3, h30, h4, h5⟩ := h
          have := drun_text (hput _ _) he' h5
          rw [put_T, put_H] at this
          exact ⟨_, _, _, _, .gcall hg hc ht hgc hf h1 (fun _ => h3) (Nat.le_of_ble_eq_true h30) (fun e => ⟨(h2 e).1, (h2 e).2, h4 e, rfl⟩), this⟩
        · exact h.elim
      · exact h.elim
end

section
variable {N : Nat} {w0 : World} {E : Nat → Prop} {F : Frm} {σ : St} {a : Act} {w : World} {P : Program} {ops : Array Oper} {k : List It → St → Prop} {K : List It} {Q : Exit → Act → World → Prop}

theorem zipN_len : ∀ {l : List Oper} {n : Nat}, (zipN n l).length = l.length
  | [], _ => rfl
  | _ :: r, n => by simp [zipN, zipN_len]

theorem SRf.draw {A : Nat → Prop} {T : Nat → TV} {H : Nat → OB} {own : Own} {rt : Rt} (h : SRf N w0 E F A T H a w own rt) (n : Nat) : SRf N w0 E F A T H a { w with drawn := n } own rt := by
  have e : ∀ b (o : Obj), own b = none → w.heap[b]? = some o → own b = none ∧ ({ w with drawn := n } : World).heap[b]? = some o := fun b o h1 h2 => ⟨h1, h2⟩
  refine ⟨⟨⟨h.keep.os, h.keep.tape, h.keep.output, h.keep.size, h.keep.block⟩, h.dom, fun k => ?_, h.dead, h.owned, h.frn, h.frn0⟩, h.defers, h.size, fun s => ?_, h.men, fun k v e' => ⟨(h.frz k v e').1, RelT.over e (fun k hk => Over.same (h.obj k) rfl rfl (fun b o q h1 h2 => h2)) (h.frz k v e').2⟩⟩
  · exact Ow.mono e _ _ _ _ (fun b o q h1 h2 => ⟨h1, h2⟩) (h.obj k)
  · exact RelT.over e (fun k hk => Over.same (h.obj k) rfl rfl (fun b o q h1 h2 => h2)) (h.tmp s)

theorem draw_sound {id : Nat} (hm : P.follows .mixedOrders = true) (h : SR N w0 E F σ a w) (hk : DrawK P N ops k K σ) (next : ∀ σ' a' w', k K σ' → SR N w0 E F σ' a' w' → Q .normal a' w') : (Code.region id ops true).wp P Q a w := by
  obtain ⟨A, own, rt, hs, hA⟩ := h
  obtain ⟨hd, hrun⟩ := hk
  have htext := drun_text (b := σ.n) (e := ops.size) (by omega) (by simp) hrun
  refine wp_region_any hm ?_
  have hall : (zipN 0 ops.toList).filter (unl (Array.replicate ops.size false)) = zipN 0 ops.toList := by
    refine List.filter_eq_self.2 (fun x hx => ?_)
    have := (zipN_spec.1 hx).2
    have : x.1 - 0 < ops.toList.length := (List.getElem?_eq_some_iff.1 this).1
    have h2 : x.1 < ops.size := by simpa using this
    simp [unl, h2]
  refine any_sound (b := σ.n) hd (fun A' T H a' w' own' rt' hKf hs' hA' => ?_) ops.size _ A σ.T σ.H a _ own rt (by simp) (fun k i h _ => by
    exfalso
    rw [Array.getD_eq_getD_getElem?] at h
    by_cases hk : k < ops.size <;> simp [hk] at h) (by rw [hall, zipN_len]; simp) (by rw [hall]; exact htext) (hs.draw _) (fun x _ k hk1 _ => hA k (by omega)) (fun k hk => hA k (by omega))
  obtain ⟨σ', e1, e2, e3, e4⟩ := hKf
  exact next σ' a' w' e4 ⟨A', own', rt', by rw [e1, e2]; exact hs', fun k hk => hA' k (by omega)⟩
end
end Go.AM
/- The framework AM, part 22: a run on abstract states is sound. -/
namespace Go.AM
open Go
section
variable {N : Nat} {w0 : World} {E : Nat → Prop} {F : Frm} {P : Program} {fin : Fin}

theorem arun_sound (hmx : P.follows .mixedOrders = true) {Qf : Exit → Act → World → Prop} (hQ : ∀ σ a w, FinK P fin σ → SR N w0 E F σ a w → Qf .normal a w ∧ Qf .ret a w) :
    ∀ (m : Nat) (K : List It) (σ : St) (a : Act) (w : World), arun P N fin m K σ → SR N w0 E F σ a w → wpIt P (SR N w0 E F) Qf K .normal a w := by
  intro m
  induction m with
  | zero => intro K σ a w h _; exact h.elim
  | succ m ih =>
    intro K σ a w h hs
    cases K with
    | nil => exact (hQ σ a w h hs).1
    | cons it K =>
      cases it with
      | blk id => exact ih K σ a w h hs
      | lp J => exact ⟨σ, hs, h⟩
      | code c =>
        show c.wp P (wpIt P (SR N w0 E F) Qf K) a w
        cases c with
        | skip => exact wp_skip (ih K σ a w h hs)
        | seq x y => exact wp_seq (ih (.code x :: .code y :: K) σ a w h hs)
        | cond c x y =>
          simp only [arun] at h
          split at h
          · rename_i b hc
            obtain ⟨A, own, rt, h1, h2⟩ := hs
            have hv : a.eval c = .bool b := by
              have := opd_rel h1 c
              have hc' : opd σ.T c = .one (.av (.bool b)) := hc
              rw [hc'] at this
              exact this
            exact wp_cond_split hv (fun e => ih (.code x :: K) σ a w (h.1 e) ⟨A, own, rt, h1, h2⟩) (fun e => ih (.code y :: K) σ a w (h.2 e) ⟨A, own, rt, h1, h2⟩)
          · exact h.elim
        | block id c => exact wp_block (ih (.code c :: .blk id :: K) σ a w h hs)
        | exit id => exact wp_exit (wpIt_exit h.1 (ih (unw id K) σ a w h.2 hs))
        | ret => exact wp_ret (wpIt_ret (hQ σ a w h hs).2)
        | region id ops draw =>
          cases draw with
          | false => exact wp_region_list (ih (.ops ops.toList ops :: K) σ a w h hs)
          | true => exact draw_sound hmx hs h (fun σ' a' w' h1 h2 => ih K σ' a' w' h1 h2)
        | loop body =>
          obtain ⟨X, S, Inv, μ, ⟨x0, i0, l0⟩, hround⟩ := h
          refine wp_loop_fam (fun x a w => Inv x ∧ SR N w0 E F (S x) a w) μ ⟨x0, i0, l0 N w0 E F a w hs⟩ (fun x a w hx => ?_)
          have := ih _ (S x) a w (hround x hx.1) hx.2
          refine wp_mono this (fun e a' w' hq => ?_)
          cases e with
          | normal =>
            obtain ⟨σ', g1, x', g2, g3, g4⟩ := hq
            exact ⟨x', ⟨g3, g2 N w0 E F a' w' g1⟩, g4⟩
          | _ => exact hq
        | _ => exact h.elim
      | ops l all =>
        show wpList P all (wpIt P (SR N w0 E F) Qf K) l a w
        cases l with
        | nil => exact ih K σ a w h hs
        | cons o r =>
          have ih' : ∀ σ a w, arun P N fin m (.ops r all :: K) σ → SR N w0 E F σ a w → wpList P all (wpIt P (SR N w0 E F) Qf K) r a w := fun σ a w h1 h2 => ih (.ops r all :: K) σ a w h1 h2
          simp only [arun] at h
          split at h
          · rename_i hg hcl
            obtain ⟨h1, h2, h3, h4⟩ := h
            exact sound_op hs hg h1 h2 h3 (fun a' w' hs' => ih' _ a' w' h4 hs')
          · rename_i f xs hg hcl
            split at h
            · rename_i fid cap hf
              obtain ⟨h1, h2, h3⟩ := h
              exact sound_call hs hg hcl hf h1 h2 h3 (fun σ' a' w' g1 g2 => ih' σ' a' w' g1 g2)
            · exact h.elim
          · rename_i g want hg hcl
            split at h
            · rename_i t ht
              split at h
              · rename_i gc hgc
                obtain ⟨h1, h2, h3, h4⟩ := h
                exact sound_guard hs hg ht hgc h1 h2 h3 (fun a' w' hs' => ih' _ a' w' h4 hs')
              · exact h.elim
            · exact h.elim
          · rename_i g want f xs hg hcl
            split at h
            · rename_i t fid cap ht hf
              split at h
              · rename_i gc hgc
                obtain ⟨h1, h2, h3⟩ := h
                exact sound_callG hs hg ht hgc hcl hf h1 h2 h3 (fun σ' a' w' g1 g2 => ih' σ' a' w' g1 g2)
              · exact h.elim
            · exact h.elim

end
end Go.AM
/- The framework AM, part 23: a function's contract out of the run of its body. -/
namespace Go.AM
open Go
section
variable {N : Nat} {w0 : World} {E A : Nat → Prop} {F : Frm} {T : Nat → TV} {H : Nat → OB} {a : Act} {w w' : World} {own own' : Own} {rt : Rt} {P : Program} {o : Oper} {n : Nat} {σ : St}

theorem ALeL.get : ∀ {l m : List AV}, ALeL l m → l.length = m.length ∧ ∀ (j : Nat) (b : AV), m[j]? = some b → ∃ x, l[j]? = some x ∧ ALe x b
  | [], [], _ => ⟨rfl, fun j b h => by simp at h⟩
  | [], _ :: _, h => h.elim
  | _ :: _, [], h => h.elim
  | x :: l, y :: m, h => by
    obtain ⟨h1, h2⟩ := h
    obtain ⟨i1, i2⟩ := ALeL.get h2
    refine ⟨by simp [i1], fun j b hj => ?_⟩
    cases j with
    | zero => simp at hj; subst hj; exact ⟨x, rfl, h1⟩
    | succ j => obtain ⟨z, f1, f2⟩ := i2 j b (by simpa using hj); exact ⟨z, by simpa using f1, f2⟩

theorem ALeT.rel {t u : AT} (h : ALeT t u) {c : Nat} {v : Value} (hr : RelR1 w own c t v) : RelR1 w own c u v ∧ t.cells.length = u.cells.length := by
  cases t with
  | one x => cases u with
    | one y => exact ⟨ALe.ow h hr, rfl⟩
    | agg m => exact h.elim
  | agg l => cases u with
    | one y => exact h.elim
    | agg m =>
      obtain ⟨h1, h2⟩ := ALeL.get h
      obtain ⟨cs, rfl, g1, g2⟩ := hr
      refine ⟨⟨cs, rfl, by rw [g1, h1], fun j b hj => ?_⟩, h1⟩
      obtain ⟨x, f1, f2⟩ := h2 j b hj
      obtain ⟨z, k1, k2⟩ := g2 j x f1
      exact ⟨z, k1, f2.ow k2⟩

theorem RLe.rel {r r' : RV} (h : RLe r r') {v : Value} (hr : RelR w own r v) : RelR w own r' v := by
  cases r with
  | val t => cases r' with
    | val u => exact (ALeT.rel h hr).1
    | tup l => exact h.elim
  | tup l => cases r' with
    | val u => exact h.elim
    | tup m =>
      obtain ⟨cs, rfl, hr⟩ := hr
      refine ⟨cs, rfl, ?_⟩
      have : ∀ (l m : List AT) (c : Nat) (vs : List Value), ALeTL l m → RelRL w own c l vs → RelRL w own c m vs := by
        intro l
        induction l with
        | nil => intro m c vs hm hr; cases m with
          | nil => exact hr
          | cons => exact hm.elim
        | cons t l ih =>
          intro m c vs hm hr
          cases m with
          | nil => exact hm.elim
          | cons u m =>
            cases vs with
            | nil => exact hr.elim
            | cons v vs =>
              obtain ⟨q1, q2⟩ := ALeT.rel hm.1 hr.1
              exact ⟨q1, ih m _ vs hm.2 (by rw [← q2]; exact hr.2)⟩
      exact this l m 1 _ h hr

/-- A part of the result that still floats at object n. -/
def RelF (w : World) (own : Own) (n c : Nat) : AT → Value → Prop
  | .one b, v => Ow w own n b [(0, c)] v
  | .agg l, v => ∃ cs, v = .agg cs ∧ cs.size = l.length ∧ ∀ (j : Nat) (b : AV), l[j]? = some b → ∃ x, cs[j]? = some x ∧ Ow w own n b [(0, c + j)] x
def RelFL (w : World) (own : Own) (n : Nat) : Nat → List AT → List Value → Prop
  | _, [], [] => True
  | c, t :: r, v :: vs => RelF w own n c t v ∧ RelFL w own n (c + t.cells.length) r vs
  | _, _, _ => False

theorem RelF.mvd (hm : Mvd own own' n) {c : Nat} {t : AT} {v : Value} (h : RelF w own n c t v) : RelF w own' n c t v := by
  have key : ∀ {b : AV} {p : Path} {x : Value}, Ow w own n b p x → Ow w own' n b p x := fun h =>
    Ow.mono (fun b o e1 e2 => ⟨hm.none b e1, e2⟩) _ _ _ _ (fun b o q e1 e2 => ⟨hm.stay b _ e1, e2⟩) h
  cases t with
  | one b => exact key h
  | agg l =>
    obtain ⟨cs, rfl, h1, h2⟩ := h
    exact ⟨cs, rfl, h1, fun j b hj => let ⟨x, f1, f2⟩ := h2 j b hj; ⟨x, f1, key f2⟩⟩

/-- What a result is at the end. -/
noncomputable def resV (P : Program) (a : Act) (w : World) : ResultVar → Value
  | .tmp t => a.tmps.getD t undef
  | .cell x t => (match (Instr.loadAt t (a.tmps.getD x undef)).run P w with | .ok v _ => v | _ => undef)

/-- It can be had. -/
def resGot (P : Program) (a : Act) (w : World) : ResultVar → Prop
  | .tmp _ => True
  | .cell x t => (Instr.loadAt t (a.tmps.getD x undef)).run P w = .ok (resV P a w (.cell x t)) w

theorem run_loadAt {t : TypeId} {v u : Value} {w : World} (h : (Instr.loadAt t v).run P w = .ok u w) : (do loadVar t (← asAddr v) : Sem Value).run P w = .ok u w := by
  unfold Instr.loadAt at h
  rw [Sem.run_bind] at h ⊢
  cases v with
  | pointer o =>
    cases o with
    | some ad => exact h
    | none => simp [Instr.sureAddr, stuck] at h
  | _ => simp [Instr.sureAddr, stuck] at h

theorem mapM_res : ∀ (l : List ResultVar), (∀ x ∈ l, resGot P a w x) → (l.mapM (m := Sem) (fun x => match x with
    | .tmp t => (pure (a.tmps.getD t undef) : Sem Value)
    | .cell x t => do loadVar t (← asAddr (a.tmps.getD x undef)))).run P w = .ok (l.map (resV P a w)) w := by
  intro l
  induction l with
  | nil => intro _; rfl
  | cons x l ih =>
    intro hl
    have hx := hl x (by simp)
    have := ih (fun y hy => hl y (by simp [hy]))
    cases x with
    | tmp t =>
      simp only [List.mapM_cons, List.map_cons]
      simp only [Sem.run_bind, Sem.run_pure, Result.andThen_ok, this]
      rfl
    | cell x t =>
      have e := run_loadAt hx
      simp only [List.mapM_cons, List.map_cons]
      rw [Sem.run_bind, e]
      simp only [Sem.run_bind, Sem.run_pure, Result.andThen_ok, this]

theorem results_list {fn : Func} (h : ∀ x ∈ fn.results.toList, resGot P a w x) :
    (results fn a.tmps).run P w = .ok (match fn.results.toList.map (resV P a w) with | [v] => v | l => .tuple l.toArray) w := by
  have e := mapM_res (P := P) (a := a) (w := w) fn.results.toList h
  unfold results
  rw [Array.mapM_eq_mapM_toList]
  have map_run : ∀ {α β : Type} (f : α → β) (x : Sem α) (v : α), x.run P w = .ok v w → (f <$> x).run P w = .ok (f v) w := by
    intro α β f x v hx
    have : f <$> x = x >>= fun y => pure (f y) := rfl
    rw [this, Sem.run_bind, hx]
    simp
  rw [Sem.run_bind]
  refine (congrArg (fun r => Result.andThen r _) (map_run List.toArray _ _ e)).trans ?_
  simp only [Result.andThen_ok]
  cases hl : fn.results.toList.map (resV P a w) with
  | nil => simp
  | cons v vs => cases vs with
    | nil => simp
    | cons v2 vs => simp

theorem resOk_got (hs : SRf N w0 E F A σ.T σ.H a w own rt) {x : ResultVar} (h : resOk P σ x) : resGot P a w x ∧ RelT w own rt σ.H (resTV P σ x) (resV P a w x) := by
  cases x with
  | tmp t => exact ⟨trivial, hs.tmp t⟩
  | cell x t =>
    obtain ⟨v, h1, h2, _⟩ := pure_load (o := ⟨none, .load t (.tmp x), 0, "", #[], none⟩) (n := σ.n) hs rfl h
    have e : (Instr.loadAt t (a.tmps.getD x undef)).run P w = .ok v w := by
      have h3 : (execOp a.eval ⟨none, .load t (.tmp x), 0, "", #[], none⟩).run P w = .ok (.value v) w := h1
      simp only [execOp] at h3
      have ee : a.eval (.tmp x) = a.tmps.getD x undef := rfl
      rw [ee] at h3
      cases hr : (Instr.loadAt t (a.tmps.getD x undef)).run P w with
      | ok u w2 =>
        rw [Sem.run_bind, hr] at h3
        simp at h3
        obtain ⟨rfl, rfl⟩ := h3
        rfl
      | halt x w2 => rw [Sem.run_bind, hr] at h3; simp at h3
    have e2 : resV P a w (.cell x t) = v := by simp only [resV, e]
    exact ⟨by show Sem.run P (Instr.loadAt t (a.tmps.getD x undef)) w = Result.ok (resV P a w (ResultVar.cell x t)) w; rw [e2]; exact e, by rw [e2]; exact h2⟩

theorem resSto_ok : ∀ {res : List ResultVar} {H : Nat → OB}, (resSto P σ H res).1 → ∀ x ∈ res, resOk P σ x
  | [], _, _, x, hx => by cases hx
  | y :: r, H, h, x, hx => by
    rcases List.mem_cons.1 hx with rfl | hx
    · exact h.1
    · exact resSto_ok h.2.2 x hx

theorem gatherR (hA : A n) : ∀ (res : List ResultVar) (c0 : Nat) (H : Nat → OB) (own : Own), WRf w0 E F A H w own rt → H n = .dead → (∀ x ∈ res, RelT w own rt H (resTV P σ x) (resV P a w x)) → (resSto P σ H res).1 →
    ∃ own' H', WRf w0 E F A H' w own' rt ∧ Mvd own own' n ∧ RelFL w own' n c0 (resSto P σ H res).2 (res.map (resV P a w))
  | [], c0, H, own, h, hn, _, _ => ⟨own, H, h, Mvd.refl _ _, trivial⟩
  | x :: r, c0, H, own, h, hn, hr, hok => by
    have hx := hr x (by simp)
    have hok := hok.2
    obtain ⟨own1, g1, g2, g3, g4, g5, g6, g7⟩ := gatherT h hn hA (fun j => [(0, c0 + j)]) hok.1 hx
    have hf : RelF w own1 n c0 (atOf (sto H (resTV P σ x)).cs (resTV P σ x)) (resV P a w x) := by
      have hok1 := hok.1
      generalize resTV P σ x = t at *
      cases t with
      | agg l =>
        obtain ⟨cs, e, h1, h2⟩ := hx
        refine ⟨cs, e, ?_, fun j b hj => ?_⟩
        · rw [e] at g1; exact g1
        · obtain ⟨z, f1, f2⟩ := g3 j b hj
          rw [e] at f1
          exact ⟨z, f1, f2⟩
      | one s =>
        obtain ⟨own2, y, e1, _, _, _, e4, _⟩ := gather1 h hn hA hok1 hx [(0, c0)]
        have hcs : (sto H (.one s)).cs = [y] := e1
        obtain ⟨z, f1, f2⟩ := g3 0 y (by rw [hcs]; rfl)
        rw [e4] at f1
        simp at f1
        subst f1
        simp only [atOf, hcs, gl, RelF]
        exact f2
      | _ => exact hok1.elim
    obtain ⟨own2, H2, k1, k2, k3⟩ := gatherR hA r (c0 + (atOf (sto H (resTV P σ x)).cs (resTV P σ x)).cells.length) (updH H (sto H (resTV P σ x)).hu) own1 g2 g7 (fun y hy => RelT.over (fun b o z1 z2 => ⟨g5.none b z1, z2⟩) (fun k _ => g6 k) (hr y (by simp [hy]))) hok.2
    exact ⟨own2, H2, k1, g5.trans k2, hf.mvd k2, k3⟩

/-- What floated at n comes to rest as the result. -/
def rest (own : Own) (n : Nat) : Own := fun b =>
  match own b with
  | some (k, q) => if k = 0 then some (0, q) else if k = n then (match q with | (_, c) :: q => some (1 + c, q) | [] => none) else none
  | none => none

theorem fin_sound {fin : Fin} {own0 : Own} (hs : SRf N w0 (fun _ => False) F A σ.T σ.H a w own rt) (hn : ¬ A n) (hF : ∀ b, own0 b = none ↔ ¬ F b) (hfin : FinK P fin σ) :
    (∀ x ∈ fin.res, resGot P a w x) ∧ ∃ r, fin.R r ∧ Gives w0 own0 w r (match fin.res.map (resV P a w) with | [v] => v | l => .tuple l.toArray) := by
  obtain ⟨_, hok, r, hle, hR⟩ := hfin
  have hH := hs.dead n hn
  have n0 := not_zero hs.toWRf hn
  have hgot := fun x hx => resOk_got (P := P) hs (resSto_ok hok x hx)
  obtain ⟨own1, H1, g1, g2, g3⟩ := gatherR (a := a) (n := n) (.inr rfl) fin.res 0 σ.H own (hs.toWRf.more n) hH (fun x hx => (hgot x hx).2) hok
  have h0 : ∀ b o, own1 b = none → w.heap[b]? = some o → rest own1 n b = none ∧ w.heap[b]? = some o := fun b o e1 e2 => ⟨by simp [rest, e1], e2⟩
  have key : ∀ {b : AV} {c : Nat} {x : Value}, Ow w own1 n b [(0, c)] x → Ow w (rest own1 n) (1 + c) b [] x := fun h =>
    Ow.mono h0 _ _ _ _ (fun b o q e1 e2 => ⟨by simp [rest, e1, n0], e2⟩) h
  have key1 : ∀ {t : AT} {c : Nat} {v : Value}, RelF w own1 n c t v → RelR1 w (rest own1 n) (1 + c) t v := by
    intro t c v h
    cases t with
    | one b => exact key h
    | agg l =>
      obtain ⟨cs, rfl, h1, h2⟩ := h
      exact ⟨cs, rfl, h1, fun j b hj => let ⟨x, f1, f2⟩ := h2 j b hj; ⟨x, f1, by rw [Nat.add_assoc]; exact key f2⟩⟩
  have keyL : ∀ (l : List AT) (c : Nat) (vs : List Value), RelFL w own1 n c l vs → RelRL w (rest own1 n) (1 + c) l vs := by
    intro l
    induction l with
    | nil => intro c vs h; cases vs <;> exact h
    | cons t l ih =>
      intro c vs h
      cases vs with
      | nil => exact h.elim
      | cons v vs => exact ⟨key1 h.1, by rw [Nat.add_assoc]; exact ih _ vs h.2⟩
  refine ⟨fun x hx => (hgot x hx).1, r, hR, hs.keep, rest own1 n, fun b x e => ?_, fun b hb => ?_, fun b k q hb e => ?_, RLe.rel hle ?_⟩
  · cases ho : own1 b with
    | none => simp [rest, ho] at e
    | some y => exact (g1.dom b y ho).1
  · constructor
    · intro e
      have hnF := (hF b).1 e
      cases ho : own1 b with
      | none => simp [rest, ho]
      | some y =>
        rcases (g1.dom b y ho).2 with e | e | e
        · omega
        · exact e.elim
        · exact absurd e hnF
    · intro e
      refine (hF b).2 (fun hf => ?_)
      simp [rest, g1.frn b hf] at e
  · cases ho : own1 b with
    | none => simp [rest, ho] at e
    | some y =>
      rcases (g1.dom b y ho).2 with e' | e' | e'
      · omega
      · exact e'.elim
      · simp only [rest, g1.frn b e', if_true, Option.some.injEq, Prod.mk.injEq] at e
        exact e.1.symm
  · have hL := keyL _ 0 _ g3
    cases hr : (resSto P σ σ.H fin.res).2 with
    | nil =>
      rw [hr] at hL
      cases hv : fin.res.map (resV P a w) with
      | nil => exact ⟨#[], rfl, trivial⟩
      | cons v vs => rw [hv] at hL; exact hL.elim
    | cons t l =>
      rw [hr] at hL
      cases hv : fin.res.map (resV P a w) with
      | nil => rw [hv] at hL; exact hL.elim
      | cons v vs =>
        rw [hv] at hL
        cases l with
        | nil =>
          cases vs with
          | nil => exact hL.1
          | cons v2 vs => exact hL.2.elim
        | cons t2 l =>
          cases vs with
          | nil => exact hL.2.elim
          | cons v2 vs => exact ⟨(v :: v2 :: vs).toArray, rfl, hL⟩

theorem lk_startT : ∀ (l : List AT) (i s : Nat), lk TV.junk (startT i l) s = if i ≤ s then (match l[s - i]? with | some t => t.tv | none => .junk) else .junk
  | [], i, s => by simp [startT, lk]
  | t :: r, i, s => by
    simp only [startT, lk]
    rw [lk_startT r (i + 1) s]
    by_cases e : i = s
    · subst e; simp
    · rw [if_neg e]
      by_cases h : i ≤ s
      · rw [if_pos h, if_pos (by omega)]
        obtain ⟨d, rfl⟩ : ∃ d, s = i + 1 + d := ⟨s - (i + 1), by omega⟩
        rw [show i + 1 + d - (i + 1) = d by omega, show i + 1 + d - i = d + 1 by omega]
        simp
      · rw [if_neg h, if_neg (by omega)]

/-- A function's contract. -/
theorem ACalls.of_run {f : FuncId} {fn : Func} {c : Code} {args : List AT} {R : RV → Prop} {m : Nat} (hmx : P.follows .mixedOrders = true) (hf : P.funcs[f]? = some fn) (hb : fn.body = some c) (hname : (fn.name == "runtime.NumGoroutine") = false) (hlen : args.length ≤ fn.ntmps)
    (h : arun P fn.ntmps ⟨fn.results.toList, R, fun _ => True⟩ m [.code c] ⟨startT 0 args, [], 1⟩) : ACalls P f args R := by
  refine ⟨fun vs w => ?_, fun own0 w vs hown hvs hargs => ?_⟩
  · have hne : ¬ fn.name = "runtime.NumGoroutine" := by intro e; rw [e] at hname; exact absurd hname (by decide)
    simp [callFunc, hf, hb, hne]
  · refine calls_of_wp hf hb ?_
    have hstart : SR fn.ntmps w (fun _ => False) (⟨fun b => own0 b ≠ none, fun _ => none, fun k h => absurd rfl h⟩ : Frm) ⟨startT 0 args, [], 1⟩ { tmps := vs ++ Array.replicate (fn.ntmps - vs.size) undef, defers := [] } w := by
      refine ⟨fun k => k = 0, fun b => if own0 b ≠ none then some (0, []) else none, fun _ => undef, ⟨⟨Keep.refl _ _, fun b x e => ?_, fun k => trivial, fun k hk => rfl, fun b k q e => ?_, fun b hb => if_pos hb, rfl, rfl⟩, rfl, by simp; omega, fun s => ?_, fun s k hk => ?_, fun k v e => nomatch e⟩, fun k hk e => ?_⟩
      · by_cases hb : own0 b ≠ none
        · exact ⟨hown b hb, .inr (.inr hb)⟩
        · rw [if_neg hb] at e; cases e
      · by_cases hb : own0 b ≠ none
        · rw [if_pos hb] at e; cases e; rfl
        · rw [if_neg hb] at e; cases e
      · have e : (St.T ⟨startT 0 args, [], 1⟩) s = (match args[s]? with | some t => t.tv | none => .junk) := by
          show lk TV.junk (startT 0 args) s = _
          rw [lk_startT, if_pos (Nat.zero_le _)]; rfl
        rw [e]
        cases hs : args[s]? with
        | none => trivial
        | some t =>
          obtain ⟨v, h1, h2⟩ := hargs s t hs
          have hlt : s < vs.size := (Array.getElem?_eq_some_iff.1 h1).1
          have hv : (vs ++ Array.replicate (fn.ntmps - vs.size) undef).getD s undef = v := by
            rw [Array.getD_eq_getD_getElem?, Array.getElem?_append_left hlt, h1]; rfl
          simp only [hv]
          have hm : ∀ b (o : Obj), own0 b = none → w.heap[b]? = some o → (if own0 b ≠ none then some ((0 : Root), ([] : Path)) else none) = none ∧ w.heap[b]? = some o := fun b o e1 e2 => ⟨if_neg (by simp [e1]), e2⟩
          cases t with
          | one b => exact Rd.mono hm _ _ h2
          | agg l =>
            obtain ⟨cs, rfl, g1, g2⟩ := h2
            refine ⟨cs, rfl, by simpa using g1, fun j s hj => ?_⟩
            simp only [List.getElem?_map, Option.map_eq_some_iff] at hj
            obtain ⟨b, hb, rfl⟩ := hj
            obtain ⟨x, f1, f2⟩ := g2 j b hb
            exact ⟨x, f1, Rd.mono hm _ _ f2⟩
      · exfalso
        have e : (St.T ⟨startT 0 args, [], 1⟩) s = (match args[s]? with | some t => t.tv | none => .junk) := by
          show lk TV.junk (startT 0 args) s = _
          rw [lk_startT, if_pos (Nat.zero_le _)]; rfl
        rw [e] at hk
        split at hk
        · rename_i t _
          cases t with
          | one b => exact hk
          | agg l =>
            obtain ⟨s, hs, hk⟩ := hk
            simp only [List.mem_map] at hs
            obtain ⟨b, _, rfl⟩ := hs
            exact hk
        · exact hk
      · have hk' : 1 ≤ k := hk
        omega
    have hQ : ∀ σ a w', FinK P ⟨fn.results.toList, R, fun _ => True⟩ σ → SR fn.ntmps w (fun _ => False) (⟨fun b => own0 b ≠ none, fun _ => none, fun k h => absurd rfl h⟩ : Frm) σ a w' →
        (a.defers = [] ∧ ∃ v, (results fn a.tmps).run P w' = .ok v w' ∧ ∃ v' r, Ending.returned v = .returned v' ∧ R r ∧ Gives w own0 w' r v') := by
      rintro σ a w' hfin ⟨A, own, rt, h1, h2⟩
      obtain ⟨q1, r, q2, q3⟩ := fin_sound (own0 := own0) h1 (h2 σ.n (Nat.le_refl _)) (fun b => by simp) hfin
      refine ⟨h1.defers, _, ?_, _, r, rfl, q2, q3⟩
      exact results_list q1
    have := arun_sound (P := P) hmx (Qf := bodyPost P fn (fun e w' => ∃ v r, e = .returned v ∧ R r ∧ Gives w own0 w' r v)) (fun σ a w' h1 h2 => ⟨hQ σ a w' h1 h2, hQ σ a w' h1 h2⟩) m [.code c] _ _ _ h hstart
    refine wp_mono this (fun e a w' hq => ?_)
    cases e <;> exact hq

end
end Go.AM
/- The framework AM, part 24: what one state says, another says too. -/
namespace Go.AM
open Go
def AV.okq : AV → Path → Prop
  | _, [] => True
  | .sl _ _ es n f, (i, j) :: p => i < n ∧ j < es ∧ (f i j).okq p
  | _, _ => False

theorem AV.okp.okq : ∀ {p : Path} {a : AV}, a.okp p → a.okq p := by
  intro p
  induction p with
  | nil => intro a _; cases a <;> trivial
  | cons ij p ih =>
    obtain ⟨i, j⟩ := ij
    intro a h
    cases a with
    | sl u nl es n f =>
      cases u with
      | true => exact ⟨h.1, h.2.1, ih h.2.2⟩
      | false => exact h.elim
    | _ => exact h.elim

theorem ALe.okq {a b : AV} (h : ALe a b) : ∀ {p : Path}, b.okq p → a.okq p := by
  induction h with
  | refl a => exact fun h => h
  | junk a => intro p h; cases p with
    | nil => cases a <;> trivial
    | cons x p => exact h.elim
  | nl u nl es n f => intro p h; cases p with
    | nil => trivial
    | cons x p => exact h
  | nil u es es' f g => intro p h; cases p with
    | nil => trivial
    | cons x p => exact absurd h.1 (Nat.not_lt_zero _)
  | sl u nl es n f g h0 ih => intro p h; cases p with
    | nil => trivial
    | cons x p => exact ⟨h.1, h.2.1, ih _ h.1 _ h.2.1 h.2.2⟩
  | ptr m f g h0 ih => intro p h; cases p with
    | nil => trivial
    | cons x p => exact h.elim
  | trans a b c _ _ ih ih' => exact fun h => ih (ih' h)


theorem ALe.hdr {w : World} {a b : AV} (h : ALe a b) : ∀ {p : Path} {v : Value}, b.okq p → AM.hdr w a v p = AM.hdr w b v p := by
  induction h with
  | refl a => intros; rfl
  | junk a => intro p v h; cases p with
    | nil => rw [hdr_nil, hdr_nil]
    | cons x p => exact h.elim
  | nl u nl es n f => intro p v h; cases p with
    | nil => rw [hdr_nil, hdr_nil]
    | cons x p => cases v with
      | slice o n' cap => cases o <;> rfl
      | _ => rfl
  | nil u es es' f g => intro p v h; cases p with
    | nil => rw [hdr_nil, hdr_nil]
    | cons x p => exact absurd h.1 (Nat.not_lt_zero _)
  | sl u nl es n f g h0 ih => intro p v h; cases p with
    | nil => rw [hdr_nil, hdr_nil]
    | cons x p =>
      obtain ⟨i, j⟩ := x
      have := fun x => ih i h.1 j h.2.1 (p := p) (v := x) h.2.2
      have e : (fun x => AM.hdr w (f i j) x p) = (fun x => AM.hdr w (g i j) x p) := funext this
      cases v with
      | slice o n' cap =>
        cases o with
        | some ad => simp only [AM.hdr, e]
        | none => rfl
      | _ => rfl
  | ptr m f g h0 ih => intro p v h; cases p with
    | nil => rw [hdr_nil, hdr_nil]
    | cons x p => exact h.elim
  | trans a b c h1 h2 ih ih' => intro p v h; rw [ih (h2.okq h), ih' h]

/-- Which object becomes which. -/
abbrev Ren := List (Nat × Nat)
def rn : Ren → Nat → Option Nat
  | [], _ => none
  | (k, k') :: r, s => if k = s then some k' else rn r s

def SLe0 (ren : Ren) (nils : List Nat) (H H' : Nat → OB) : SV → SV → Prop
  | _, .junk => True
  | .av a, .av b => ALe a b
  | .own k p vs, .own k' p' vs' => rn ren k = some k' ∧ p' = p ∧ (H k).live p vs ∧ vs' = verTake [] (p.length + 1)
  | .ref k p vs i o, .ref k' p' vs' i' o' => rn ren k = some k' ∧ p' = p ∧ i' = i ∧ o' = o ∧ (H k).live p vs ∧ vs' = verTake [] (p.length + 1) ∧ ((H' k').a.at p).es = ((H k).a.at p).es
  | .view k p vs lo hi, .view k' p' vs' lo' hi' => rn ren k = some k' ∧ p' = p ∧ lo' = lo ∧ hi' = hi ∧ (H k).live p vs ∧ vs' = verTake [] (p.length + 1) ∧ ((H' k').a.at p).es = ((H k).a.at p).es
  | .av (.sl _ (some true) _ n _), .own k' p' vs' => n = 0 ∧ k' ∈ nils ∧ p' = [] ∧ vs' = [0]
  | _, _ => False
def SLeL0 (ren : Ren) (nils : List Nat) (H H' : Nat → OB) : List SV → List SV → Prop
  | [], [] => True
  | s :: r, s' :: r' => SLe0 ren nils H H' s s' ∧ SLeL0 ren nils H H' r r'
  | _, _ => False
def SLe (ren : Ren) (nils : List Nat) (H H' : Nat → OB) : SV → SV → Prop
  | .clo g l, .clo g' l' => g' = g ∧ SLeL0 ren nils H H' l l'
  | s, s' => SLe0 ren nils H H' s s'
def SLeL (ren : Ren) (nils : List Nat) (H H' : Nat → OB) : List SV → List SV → Prop
  | [], [] => True
  | s :: r, s' :: r' => SLe ren nils H H' s s' ∧ SLeL ren nils H H' r r'
  | _, _ => False
def TLe (ren : Ren) (nils : List Nat) (H H' : Nat → OB) : TV → TV → Prop
  | _, .one .junk => True
  | .one s, .one s' => SLe ren nils H H' s s'
  | .agg l, .agg l' => SLeL ren nils H H' l l'
  | _, _ => False
def TLeA (ren : Ren) (nils : List Nat) (T : Nat → TV) (H H' : Nat → OB) : List (Nat × TV) → Prop
  | [] => True
  | (s, t) :: r => TLe ren nils H H' (T s) t ∧ TLeA ren nils T H H' r
def OLeA (H H' : Nat → OB) : Ren → Prop
  | [] => True
  | (k, k') :: r => ALe (H k).a (H' k').a ∧ (H' k').vs = [] ∧ (4 < k' ∨ (k = k' ∧ (H k).live [] [0])) ∧ OLeA H H' r
def nilsOk (H' : Nat → OB) : List Nat → Prop
  | [] => True
  | k :: r => (∃ es g, H' k = ⟨.sl true none es 0 g, []⟩) ∧ nilsOk H' r
/-- Different sources, different targets, none is 0, all below n. -/
def renOk (nils : List Nat) (n : Nat) : Ren → Bool
  | [] => true
  | (k, k') :: r => !Nat.beq k 0 && !Nat.beq k' 0 && Nat.blt k' n && (rn r k).isNone && r.all (fun x => !Nat.beq x.2 k') && nils.all (fun x => !Nat.beq x k') && renOk nils n r
def nilOk (n : Nat) : List Nat → Bool
  | [] => true
  | k :: r => Nat.blt 4 k && Nat.blt k n && nilOk n r
/-- All of the objects are spoken of. -/
def allIn (ren : Ren) (nils : List Nat) : List (Nat × OB) → Bool
  | [] => true
  | (k, _) :: r => (ren.any (fun x => Nat.beq x.2 k) || nils.any (fun x => Nat.beq x k)) && allIn ren nils r

def rnInv : Ren → Nat → Option Nat
  | [], _ => none
  | (k, k') :: r, s => if k' = s then some k else rnInv r s

theorem renOk_get {nils : List Nat} {n : Nat} : ∀ {ren : Ren} {k k' : Nat}, renOk nils n ren = true → rn ren k = some k' → k ≠ 0 ∧ k' ≠ 0 ∧ k' < n ∧ rnInv ren k' = some k ∧ k' ∉ nils
  | [], k, k', _, h => by cases h
  | (x, x') :: r, k, k', hr, h => by
    simp only [renOk, Bool.and_eq_true, Bool.not_eq_true', Option.isNone_iff_eq_none, List.all_eq_true] at hr
    obtain ⟨⟨⟨⟨⟨⟨h1, h2⟩, h3⟩, h4⟩, h5⟩, h6⟩, h7⟩ := hr
    simp only [rn] at h
    by_cases e : x = k
    · subst e
      rw [if_pos rfl] at h
      cases h
      refine ⟨Nat.ne_of_beq_eq_false h1, Nat.ne_of_beq_eq_false h2, Nat.le_of_ble_eq_true h3, by simp [rnInv], fun hm => ?_⟩
      have := h6 _ hm; simp at this
    · rw [if_neg e] at h
      obtain ⟨i1, i2, i3, i4, i5⟩ := renOk_get h7 h
      refine ⟨i1, i2, i3, ?_, i5⟩
      have hne : x' ≠ k' := by
        intro e2
        have : ∀ {r : Ren} {k k' : Nat}, rnInv r k' = some k → ∃ y ∈ r, y.2 = k' := by
          intro r
          induction r with
          | nil => intro k k' h; cases h
          | cons y r ih =>
            intro k k' h
            simp only [rnInv] at h
            by_cases e : y.2 = k'
            · exact ⟨y, by simp, e⟩
            · rw [if_neg e] at h
              obtain ⟨z, z1, z2⟩ := ih h
              exact ⟨z, by simp [z1], z2⟩
        obtain ⟨y, y1, y2⟩ := this i4
        have := h5 y y1
        rw [y2, e2] at this
        simp at this
      simp only [rnInv, if_neg hne]
      exact i4

theorem rnInv_get {nils : List Nat} {n : Nat} : ∀ {ren : Ren} {k k' : Nat}, renOk nils n ren = true → rnInv ren k' = some k → rn ren k = some k'
  | [], k, k', _, h => by cases h
  | (x, x') :: r, k, k', hr, h => by
    simp only [renOk, Bool.and_eq_true, Bool.not_eq_true', Option.isNone_iff_eq_none, List.all_eq_true] at hr
    obtain ⟨⟨⟨⟨⟨⟨h1, h2⟩, h3⟩, h4⟩, h5⟩, h6⟩, h7⟩ := hr
    simp only [rnInv] at h
    by_cases e : x' = k'
    · subst e
      rw [if_pos rfl] at h
      cases h
      simp [rn]
    · rw [if_neg e] at h
      have i := rnInv_get h7 h
      have : x ≠ k := by intro e2; subst e2; rw [i] at h4; cases h4
      simp only [rn, if_neg this]
      exact i

theorem OLeA.get {H H' : Nat → OB} : ∀ {ren : Ren} {k k' : Nat}, OLeA H H' ren → rn ren k = some k' → ALe (H k).a (H' k').a ∧ (H' k').vs = [] ∧ (4 < k' ∨ (k = k' ∧ (H k).live [] [0]))
  | [], k, k', _, h => by cases h
  | (x, x') :: r, k, k', hr, h => by
    simp only [rn] at h
    by_cases e : x = k
    · subst e; rw [if_pos rfl] at h; cases h; exact ⟨hr.1, hr.2.1, hr.2.2.1⟩
    · rw [if_neg e] at h; exact OLeA.get hr.2.2.2 h
theorem nilsOk_get {H' : Nat → OB} : ∀ {l : List Nat} {k : Nat}, nilsOk H' l → k ∈ l → ∃ es g, H' k = ⟨.sl true none es 0 g, []⟩
  | [], k, _, h => by cases h
  | x :: r, k, hr, h => by
    rcases List.mem_cons.1 h with rfl | h
    · exact hr.1
    · exact nilsOk_get hr.2 h
theorem nilOk_get {n : Nat} : ∀ {l : List Nat} {k : Nat}, nilOk n l = true → k ∈ l → 4 < k ∧ k < n
  | [], k, _, h => by cases h
  | x :: r, k, hr, h => by
    simp only [nilOk, Bool.and_eq_true] at hr
    rcases List.mem_cons.1 h with rfl | h
    · exact ⟨Nat.le_of_ble_eq_true hr.1.1, Nat.le_of_ble_eq_true hr.1.2⟩
    · exact nilOk_get hr.2 h
theorem allIn_get {ren : Ren} {nils : List Nat} : ∀ {h : List (Nat × OB)} {k : Nat}, allIn ren nils h = true → lk OB.dead h k ≠ .dead → (∃ x, rnInv ren k = some x) ∨ k ∈ nils
  | [], k, _, h => absurd rfl h
  | (x, o) :: r, k, hr, h => by
    simp only [allIn, Bool.and_eq_true, Bool.or_eq_true, List.any_eq_true] at hr
    by_cases e : x = k
    · subst e
      rcases hr.1 with ⟨y, y1, y2⟩ | ⟨y, y1, y2⟩
      · left
        have y2' : y.2 = x := by simpa using y2
        clear hr h
        induction ren with
        | nil => cases y1
        | cons z ren ih =>
          simp only [rnInv]
          by_cases e : z.2 = x
          · rw [if_pos e]; exact ⟨_, rfl⟩
          · rw [if_neg e]
            rcases List.mem_cons.1 y1 with rfl | y1
            · exact absurd y2' e
            · exact ih y1
      · right; have : y = x := by simpa using y2
        rw [← this]; exact y1
    · simp only [lk, if_neg e] at h
      exact allIn_get hr.2 h

def reown (ren : Ren) (own : Own) : Own := fun b =>
  match own b with
  | some (k, q) => if k = 0 then some (0, q) else (match rn ren k with | some k' => some (k', q) | none => none)
  | none => none

def rert (ren : Ren) (_ : List Nat) (rt : Rt) : Rt := fun k =>
  match rnInv ren k with
  | some x => rt x
  | none => .slice none 0 0

section
variable {N : Nat} {w0 : World} {E A : Nat → Prop} {F : Frm} {T : Nat → TV} {H H' : Nat → OB} {a : Act} {w : World} {own : Own} {rt : Rt} {ren : Ren} {nils : List Nat} {n : Nat}

theorem vle_zero (p : Path) (vs : List Nat) : vle (verTake [] (p.length + 1)) vs := by
  intro d
  have : ∀ (m d : Nat), gl 0 (verTake [] m) d = 0 := by
    intro m
    induction m with
    | zero => intro d; cases d <;> rfl
    | succ m ih => intro d; cases d with
      | zero => rfl
      | succ d => exact ih d
  rw [this]; exact Nat.zero_le _

theorem okp_of_live {o : OB} {p : Path} {vs : List Nat} (h : o.live p vs) : o.a.okp p := h.1

theorem SLe0.rel (_ : WRf w0 E F A H w own rt) (hren : renOk nils n ren = true) (ho : OLeA H H' ren) (_ : nilsOk H' nils) (hni : ∀ k ∈ nils, rnInv ren k = none) {s s' : SV} {v : Value} (h : SLe0 ren nils H H' s s') (hr : RelS0 w own rt H s v) :
    RelS0 w (reown ren own) (rert ren nils rt) H' s' v := by
  have h0 : ∀ b o, own b = none → w.heap[b]? = some o → reown ren own b = none ∧ w.heap[b]? = some o := fun b o e1 e2 => ⟨by simp [reown, e1], e2⟩
  have key : ∀ {k k' : Nat} {p : Path} {vs : List Nat}, rn ren k = some k' → (H k).live p vs → ∀ {v : Value}, hdr w (H k).a (rt k) p = some v → ((H' k').a.okp p → hdr w (H' k').a (rert ren nils rt k') p = some v) := by
    intro k k' p vs e1 e2 v e3 e4
    obtain ⟨q1, q2, q3, q4, q5⟩ := renOk_get hren e1
    have hal := (ho.get e1).1
    rw [← hal.hdr e4.okq]
    simp only [rert, q4]
    exact e3
  cases s' with
  | junk => trivial
  | av b =>
    cases s with
    | av a => exact Rd.mono h0 _ _ (h.rd hr)
    | _ => exact h.elim
  | clo g l => cases s <;> first | exact h.elim | (simp [SLe0] at h)
  | own k' p' vs' =>
    cases s with
    | own k p vs =>
      obtain ⟨e1, rfl, e2, rfl⟩ := h
      exact ⟨vle_zero _ _, fun hl => key e1 e2 (hr.2 e2) hl.1⟩
    | av a =>
      cases a with
      | sl u nl es m f =>
        cases nl with
        | none => exact h.elim
        | some b =>
          cases b with
          | false => exact h.elim
          | true =>
            obtain ⟨rfl, h1, rfl, rfl⟩ := h
            refine ⟨vle_zero [] _, fun _ => ?_⟩
            rw [hdr_nil]
            have hv : v = .slice none 0 0 := rd_nil (u := u) hr
            rw [hv]
            simp only [rert, hni _ h1]
      | _ => exact h.elim
    | _ => exact h.elim
  | ref k' p' vs' i' o' =>
    cases s with
    | ref k p vs i o =>
      obtain ⟨e1, rfl, rfl, rfl, e2, rfl, e3⟩ := h
      refine ⟨⟨vle_zero _ _, hr.1.2⟩, fun hl => ?_⟩
      obtain ⟨b, m, cap, g1, g2⟩ := hr.2 e2
      exact ⟨b, m, cap, key e1 e2 g1 hl.1, by rw [e3]; exact g2⟩
    | _ => exact h.elim
  | view k' p' vs' i' o' =>
    cases s with
    | view k p vs i o =>
      obtain ⟨e1, rfl, rfl, rfl, e2, rfl, e3⟩ := h
      refine ⟨vle_zero _ _, fun hl => ?_⟩
      obtain ⟨b, m, cap, a', g1, g2⟩ := hr.2 e2
      exact ⟨b, m, cap, a', key e1 e2 g1 hl.1, by rw [e3]; exact g2⟩
    | _ => exact h.elim

theorem SLeL0.get : ∀ {l l' : List SV}, SLeL0 ren nils H H' l l' → l.length = l'.length ∧ ∀ (j : Nat) (s' : SV), l'[j]? = some s' → ∃ s, l[j]? = some s ∧ SLe0 ren nils H H' s s'
  | [], [], _ => ⟨rfl, fun j s h => by simp at h⟩
  | [], _ :: _, h => h.elim
  | _ :: _, [], h => h.elim
  | x :: l, y :: m, h => by
    obtain ⟨h1, h2⟩ := h
    obtain ⟨i1, i2⟩ := SLeL0.get h2
    refine ⟨by simp [i1], fun j b hj => ?_⟩
    cases j with
    | zero => simp at hj; subst hj; exact ⟨x, rfl, h1⟩
    | succ j => obtain ⟨z, f1, f2⟩ := i2 j b (by simpa using hj); exact ⟨z, by simpa using f1, f2⟩
theorem SLeL.get : ∀ {l l' : List SV}, SLeL ren nils H H' l l' → l.length = l'.length ∧ ∀ (j : Nat) (s' : SV), l'[j]? = some s' → ∃ s, l[j]? = some s ∧ SLe ren nils H H' s s'
  | [], [], _ => ⟨rfl, fun j s h => by simp at h⟩
  | [], _ :: _, h => h.elim
  | _ :: _, [], h => h.elim
  | x :: l, y :: m, h => by
    obtain ⟨h1, h2⟩ := h
    obtain ⟨i1, i2⟩ := SLeL.get h2
    refine ⟨by simp [i1], fun j b hj => ?_⟩
    cases j with
    | zero => simp at hj; subst hj; exact ⟨x, rfl, h1⟩
    | succ j => obtain ⟨z, f1, f2⟩ := i2 j b (by simpa using hj); exact ⟨z, by simpa using f1, f2⟩

theorem RelS.relS0 {s : SV} {v : Value} (hc : ∀ g l, s ≠ .clo g l) (h : RelS w own rt H s v) : RelS0 w own rt H s v := by
  cases s with
  | clo g l => exact absurd rfl (hc g l)
  | _ => exact h

theorem RelS0.relS {s : SV} {v : Value} (hc : ∀ g l, s ≠ .clo g l) (h : RelS0 w own rt H s v) : RelS w own rt H s v := by
  cases s with
  | clo g l => exact absurd rfl (hc g l)
  | _ => exact h

theorem SLe.rel (hs : WRf w0 E F A H w own rt) (hren : renOk nils n ren = true) (ho : OLeA H H' ren) (hn : nilsOk H' nils) (hni : ∀ k ∈ nils, rnInv ren k = none) {s s' : SV} {v : Value} (h : SLe ren nils H H' s s') (hr : RelS w own rt H s v) :
    RelS w (reown ren own) (rert ren nils rt) H' s' v := by
  by_cases hc : ∃ g l, s = .clo g l
  · obtain ⟨g, l, rfl⟩ := hc
    cases s' with
    | junk => trivial
    | clo g' l' =>
      obtain ⟨rfl, h⟩ := h
      obtain ⟨cs, rfl, c1, c2⟩ := hr
      obtain ⟨i1, i2⟩ := h.get
      refine ⟨cs, rfl, by rw [c1, i1], fun j s' hj => ?_⟩
      obtain ⟨s, f1, f2⟩ := i2 j s' hj
      obtain ⟨x, g1, g2⟩ := c2 j s f1
      exact ⟨x, g1, f2.rel hs hren ho hn hni g2⟩
    | _ => exact h.elim
  · have hc1 : ∀ g l, s ≠ .clo g l := fun g l e => hc ⟨g, l, e⟩
    have h0 : SLe0 ren nils H H' s s' := by
      cases s with
      | clo g l => exact absurd rfl (hc1 g l)
      | _ => exact h
    have hr0 := hr.relS0 hc1
    by_cases hc' : ∃ g l, s' = .clo g l
    · obtain ⟨g, l, rfl⟩ := hc'
      cases s <;> first | exact h0.elim | (simp [SLe0] at h0)
    · exact (h0.rel hs hren ho hn hni hr0).relS (fun g l e => hc' ⟨g, l, e⟩)

theorem SLeL.relL (hs : WRf w0 E F A H w own rt) (hren : renOk nils n ren = true) (ho : OLeA H H' ren) (hn : nilsOk H' nils) (hni : ∀ k ∈ nils, rnInv ren k = none) {l l' : List SV} {cs : Array Value} (h : SLeL ren nils H H' l l') (hr : RelL w own rt H l cs) :
    RelL w (reown ren own) (rert ren nils rt) H' l' cs := by
  obtain ⟨i1, i2⟩ := h.get
  obtain ⟨c1, c2⟩ := hr
  refine ⟨by rw [c1, i1], fun j s' hj => ?_⟩
  obtain ⟨s, f1, f2⟩ := i2 j s' hj
  obtain ⟨x, g1, g2⟩ := c2 j s f1
  exact ⟨x, g1, f2.rel hs hren ho hn hni g2⟩

theorem TLe.rel (hs : WRf w0 E F A H w own rt) (hren : renOk nils n ren = true) (ho : OLeA H H' ren) (hn : nilsOk H' nils) (hni : ∀ k ∈ nils, rnInv ren k = none) {t t' : TV} {v : Value} (h : TLe ren nils H H' t t') (hr : RelT w own rt H t v) :
    RelT w (reown ren own) (rert ren nils rt) H' t' v := by
  cases t' with
  | one s' =>
    by_cases hj : s' = .junk
    · subst hj; trivial
    · cases t with
      | one s =>
        have h' : SLe ren nils H H' s s' := by
          cases s' with
          | junk => exact absurd rfl hj
          | _ => exact h
        exact h'.rel hs hren ho hn hni hr
      | _ => cases s' <;> first | exact absurd rfl hj | exact h.elim
  | agg l' =>
    cases t with
    | agg l =>
      obtain ⟨cs, rfl, hr⟩ := hr
      exact ⟨cs, rfl, SLeL.relL hs hren ho hn hni h hr⟩
    | _ => exact h.elim
  | _ => cases t <;> exact h.elim

theorem SLe0.men (hren : renOk nils n ren = true) {s s' : SV} (h : SLe0 ren nils H H' s s') {k : Nat} (hk : s'.mn0 k) : (∃ x, rnInv ren k = some x) ∨ k ∈ nils := by
  cases s' with
  | own k' p' vs' =>
    cases hk
    cases s with
    | own k p vs => exact .inl ⟨_, (renOk_get hren h.1).2.2.2.1⟩
    | av a =>
      cases a with
      | sl u nl es m f =>
        cases nl with
        | none => exact h.elim
        | some b => cases b with
          | false => exact h.elim
          | true => exact .inr h.2.1
      | _ => exact h.elim
    | _ => exact h.elim
  | ref k' p' vs' i o => cases hk; cases s with
    | ref k p vs i o => exact .inl ⟨_, (renOk_get hren h.1).2.2.2.1⟩
    | _ => exact h.elim
  | view k' p' vs' i o => cases hk; cases s with
    | view k p vs i o => exact .inl ⟨_, (renOk_get hren h.1).2.2.2.1⟩
    | _ => exact h.elim
  | _ => exact hk.elim

theorem SLe.men (hren : renOk nils n ren = true) {s s' : SV} (h : SLe ren nils H H' s s') {k : Nat} (hk : s'.mn k) : (∃ x, rnInv ren k = some x) ∨ k ∈ nils := by
  by_cases hc' : ∃ g l, s' = .clo g l
  · obtain ⟨g, l', rfl⟩ := hc'
    obtain ⟨x, hx, hk⟩ := hk
    cases s with
    | clo g' l =>
      obtain ⟨rfl, h⟩ := h
      obtain ⟨j, hj⟩ := List.getElem?_of_mem hx
      obtain ⟨y, f1, f2⟩ := h.get.2 j x hj
      exact f2.men hren hk
    | _ => first | exact h.elim | (simp [SLe, SLe0] at h)
  · have hk0 : s'.mn0 k := by cases s' <;> first | exact hk | exact absurd ⟨_, _, rfl⟩ hc'
    have h0 : SLe0 ren nils H H' s s' := by
      cases s with
      | clo g l =>
        cases s' with
        | clo g l => exact absurd ⟨_, _, rfl⟩ hc'
        | _ => exact h
      | _ => exact h
    exact h0.men hren hk0

theorem TLe.men (hren : renOk nils n ren = true) {t t' : TV} (h : TLe ren nils H H' t t') {k : Nat} (hk : t'.mn k) : (∃ x, rnInv ren k = some x) ∨ k ∈ nils := by
  cases t' with
  | one s' =>
    by_cases hj : s' = .junk
    · subst hj; exact hk.elim
    · cases t with
      | one s =>
        have h' : SLe ren nils H H' s s' := by
          cases s' with
          | junk => exact absurd rfl hj
          | _ => exact h
        exact h'.men hren hk
      | _ => cases s' <;> first | exact absurd rfl hj | exact h.elim
  | agg l' =>
    cases t with
    | agg l =>
      obtain ⟨x, hx, hk⟩ := hk
      obtain ⟨j, hj⟩ := List.getElem?_of_mem hx
      obtain ⟨y, f1, f2⟩ := (SLeL.get h).2 j x hj
      exact f2.men hren hk
    | _ => exact h.elim
  | _ => cases t <;> exact h.elim
end

theorem TLeA.get {ren : Ren} {nils : List Nat} {T : Nat → TV} {H H' : Nat → OB} : ∀ {l : List (Nat × TV)}, TLeA ren nils T H H' l → ∀ s, TLe ren nils H H' (T s) (lk .junk l s)
  | [], _, s => by show TLe _ _ _ _ _ (.one .junk); cases T s <;> trivial
  | (x, t) :: r, h, s => by
    simp only [lk]
    by_cases e : x = s
    · subst e; rw [if_pos rfl]; exact h.1
    · rw [if_neg e]; exact TLeA.get h.2 s

/-- One state for another: objects are named anew, versions begin anew, what isn't said is dropped. -/
theorem Le.of {σ σ' : St} (ren : Ren) (nils : List Nat) (hn0 : ((Nat.blt 4 σ'.n || Nat.ble σ.n σ'.n) && Nat.blt 0 σ'.n) = true) (hren : renOk nils σ'.n ren = true) (hnl : nilOk σ'.n nils = true) (hall : allIn ren nils σ'.h = true) (ho : OLeA σ.H σ'.H ren) (hn : nilsOk σ'.H nils) (ht : TLeA ren nils σ.T σ.H σ'.H σ'.t) : Le σ σ' := by
  rintro N w0 E F a w ⟨A, own, rt, hs, hA⟩
  have hni : ∀ k ∈ nils, rnInv ren k = none := by
    intro k hk
    cases e : rnInv ren k with
    | none => rfl
    | some x => exact absurd hk (renOk_get hren (rnInv_get hren e)).2.2.2.2
  have htt := fun s => ht.get s
  refine ⟨fun k => k = 0 ∨ (∃ x, rnInv ren k = some x) ∨ k ∈ nils ∨ F.z k ≠ none, reown ren own, rert ren nils rt, ⟨⟨hs.keep, fun b x e => ?_, fun k => ?_, fun k hk => ?_, fun b k q e => ?_, fun b hb => ?_, ?_⟩, hs.defers, hs.size, fun s => ?_, fun s k hk => ?_, fun k v e => ?_⟩, fun k hk e => ?_⟩
  · cases e1 : own b with
    | none => simp [reown, e1] at e
    | some y => exact hs.dom b y e1
  · cases e : rnInv ren k with
    | some x =>
      have e1 := rnInv_get hren e
      obtain ⟨q1, q2, q3, q4, q5⟩ := renOk_get hren e1
      refine (ho.get e1).1.ow ?_
      have e2 : rert ren nils rt k = rt x := by simp [rert, e]
      rw [e2]
      refine Ow.mono (r := x) (fun b o e1 e2 => ⟨by simp [reown, e1], e2⟩) _ [] [] _ (fun b o q f1 f2 => ⟨?_, f2⟩) (hs.obj x)
      simp only [List.nil_append] at f1 ⊢
      simp [reown, f1, q1, e1]
    | none =>
      by_cases hk : k ∈ nils
      · obtain ⟨es, g, e2⟩ := nilsOk_get hn hk
        rw [e2]
        refine .inl ⟨rfl, none, ?_, ⟨fun e => by simp at e, fun e => by simp at e⟩⟩
        simp [rert, e]
      · have : σ'.H k = .dead := by
          by_cases e2 : σ'.H k = .dead
          · exact e2
          · rcases allIn_get hall e2 with ⟨x, h⟩ | h
            · rw [e] at h; cases h
            · exact absurd h hk
        rw [this]; trivial
  · by_cases e2 : σ'.H k = .dead
    · exact e2
    · rcases allIn_get hall e2 with h | h
      · exact absurd (.inr (.inl h)) hk
      · exact absurd (.inr (.inr (.inl h))) hk
  · cases e1 : own b with
    | none => simp [reown, e1] at e
    | some y =>
      obtain ⟨k1, q1⟩ := y
      simp only [reown, e1] at e
      by_cases h0 : k1 = 0
      · rw [if_pos h0] at e; cases e; exact .inl rfl
      · rw [if_neg h0] at e
        cases e2 : rn ren k1 with
        | none => rw [e2] at e; cases e
        | some k' =>
          rw [e2] at e; cases e
          exact .inr (.inl ⟨_, (renOk_get hren e2).2.2.2.1⟩)
  · simp [reown, hs.frn b hb]
  · refine ⟨?_, .inl rfl⟩
    by_cases e2 : σ'.H 0 = .dead
    · exact e2
    · rcases allIn_get hall e2 with ⟨x, h⟩ | h
      · exact absurd rfl (renOk_get hren (rnInv_get hren h)).2.1
      · exact absurd (nilOk_get hnl h).1 (by omega)
  · exact (htt s).rel hs.toWRf hren ho hn hni (hs.tmp s)
  · rcases (htt s).men hren hk with h | h
    · exact .inr (.inl h)
    · exact .inr (.inr (.inl h))
  · have hz : F.z k ≠ none := by rw [e]; exact fun h => nomatch h
    obtain ⟨z1, z2⟩ := F.hz k hz
    obtain ⟨g1, g2⟩ := hs.frz k v e
    refine ⟨.inr (.inr (.inr hz)), vle_zero [] _, fun hl => ?_⟩
    rw [hdr_nil]
    cases ei : rnInv ren k with
    | some x =>
      rcases (ho.get (rnInv_get hren ei)).2.2 with h | ⟨rfl, h⟩
      · omega
      · have := g2.2 h
        rw [hdr_nil] at this
        simp only [rert, ei]
        exact this
    | none =>
      exfalso
      have hd : σ'.H k = .dead := by
        by_cases e2 : σ'.H k = .dead
        · exact e2
        · rcases allIn_get hall e2 with ⟨x, h⟩ | h
          · rw [ei] at h; cases h
          · exact absurd (nilOk_get hnl h).1 (by omega)
      rw [hd] at hl
      exact hl.1
  · simp only [Bool.and_eq_true, Bool.or_eq_true] at hn0
    have hpos : 0 < σ'.n := Nat.le_of_ble_eq_true hn0.2
    rcases e with e | ⟨x, e⟩ | e | e
    · omega
    · exact absurd (renOk_get hren (rnInv_get hren e)).2.2.1 (by omega)
    · exact absurd (nilOk_get hnl e).2 (by omega)
    · rcases hn0.1 with h | h
      · have := F.hz k e
        have := Nat.le_of_ble_eq_true h
        omega
      · have := Nat.le_of_ble_eq_true h
        cases ez : F.z k with
        | none => exact absurd ez e
        | some v => exact hA k (by omega) (hs.frz k v ez).1

end Go.AM
/- The framework AM, part 25: tools for the contracts of single functions. -/
namespace Go.AM
open Go
/-! ### Data -/

/-- Element j of the cells of list element i. -/
def gf {α : Type} (cs : α → List AV) (d : α) (l : List α) : Nat → Nat → AV := fun i j => gl .junk (cs (l.getD i d)) j

def cI (n : Int) : List AV := [.int .i64 n]
def cB (n : UInt8) : List AV := [.int .u8 n.toNat]
def cS (s : List UInt8) : List AV := [.str s]
/-- Lists of integers, of bytes, of strings. -/
def fI : List Int → Nat → Nat → AV := gf cI 0
def fB : List UInt8 → Nat → Nat → AV := gf cB 0
def fS : List (List UInt8) → Nat → Nat → AV := gf cS []
def cL (u : Bool) (l : List Int) : List AV := [.sl u none 1 l.length (fI l)]
/-- Lists of lists of integers. -/
def fL (u : Bool) : List (List Int) → Nat → Nat → AV := gf (cL u) []
abbrev aI (u : Bool) (l : List Int) : AV := .sl u none 1 l.length (fI l)
abbrev aL (u v : Bool) (l : List (List Int)) : AV := .sl u none 1 l.length (fL v l)

theorem fI_at (l : List Int) (i : Nat) : fI l i 0 = .int .i64 (l.getD i 0) := rfl
theorem fB_at (l : List UInt8) (i : Nat) : fB l i 0 = .int .u8 (l.getD i 0).toNat := rfl
theorem fS_at (l : List (List UInt8)) (i : Nat) : fS l i 0 = .str (l.getD i []) := rfl
theorem fL_at (u : Bool) (l : List (List Int)) (i : Nat) : fL u l i 0 = .sl u none 1 (l.getD i []).length (fI (l.getD i [])) := rfl

/-! ### Equations -/

section
variable (P : Program) (t : TypeId)
theorem b_add (k : IntKind) (a b : Int) : binop P t .add (.one (.av (.int k a))) (.one (.av (.int k b))) = (inK k (a + b), .av (.int k (a + b))) := by simp [binop, intOp]
theorem b_sub (k : IntKind) (a b : Int) : binop P t .sub (.one (.av (.int k a))) (.one (.av (.int k b))) = (inK k (a - b), .av (.int k (a - b))) := by simp [binop, intOp]
theorem b_mul (k : IntKind) (a b : Int) : binop P t .mul (.one (.av (.int k a))) (.one (.av (.int k b))) = (inK k (a * b), .av (.int k (a * b))) := by simp [binop, intOp]
theorem b_quo (k : IntKind) (a b : Int) : binop P t .quo (.one (.av (.int k a))) (.one (.av (.int k b))) = (b ≠ 0 ∧ inK k (a.tdiv b), .av (.int k (a.tdiv b))) := by simp [binop, intOp]
theorem b_rem (k : IntKind) (a b : Int) : binop P t .rem (.one (.av (.int k a))) (.one (.av (.int k b))) = (b ≠ 0, .av (.int k (a.tmod b))) := by simp [binop, intOp]
theorem b_eql (k : IntKind) (a b : Int) : binop P t .eql (.one (.av (.int k a))) (.one (.av (.int k b))) = (True, .av (.bool (decide (a = b)))) := by
  simp only [binop, intOp, true_and, and_true, Prod.mk.injEq, SV.av.injEq, AV.bool.injEq]
  cases h : decide (a = b) <;> simp at h <;> simp [h]
theorem b_neq (k : IntKind) (a b : Int) : binop P t .neq (.one (.av (.int k a))) (.one (.av (.int k b))) = (True, .av (.bool (decide (a ≠ b)))) := by
  have e : (a != b) = decide (a ≠ b) := by
    by_cases h : a = b <;> simp [h]
  simp only [binop, intOp, e, and_true]
theorem b_lss (k : IntKind) (a b : Int) : binop P t .lss (.one (.av (.int k a))) (.one (.av (.int k b))) = (True, .av (.bool (decide (a < b)))) := by simp [binop, intOp]
theorem b_leq (k : IntKind) (a b : Int) : binop P t .leq (.one (.av (.int k a))) (.one (.av (.int k b))) = (True, .av (.bool (decide (a ≤ b)))) := by simp [binop, intOp]
theorem b_gtr (k : IntKind) (a b : Int) : binop P t .gtr (.one (.av (.int k a))) (.one (.av (.int k b))) = (True, .av (.bool (decide (b < a)))) := by simp [binop, intOp]
theorem b_geq (k : IntKind) (a b : Int) : binop P t .geq (.one (.av (.int k a))) (.one (.av (.int k b))) = (True, .av (.bool (decide (b ≤ a)))) := by simp [binop, intOp]
theorem b_shl (k k' : IntKind) (a b : Int) : binop P t .shl (.one (.av (.int k a))) (.one (.av (.int k' b))) = (0 ≤ b ∧ b < k.bits ∧ inK k (a * 2 ^ b.toNat), .av (.int k (a * 2 ^ b.toNat))) := by simp [binop, shOp]
theorem b_shr (k k' : IntKind) (a b : Int) : binop P t .shr (.one (.av (.int k a))) (.one (.av (.int k' b))) = (0 ≤ b ∧ b < k.bits ∧ inK k (a.fdiv (2 ^ b.toNat)), .av (.int k (a.fdiv (2 ^ b.toNat)))) := by simp [binop, shOp]
theorem b_seql (a b : List UInt8) : binop P t .eql (.one (.av (.str a))) (.one (.av (.str b))) = (True, .av (.bool (decide (a = b)))) := by
  have e : (a == b) = decide (a = b) := by rw [Bool.eq_iff_iff]; simp
  simp only [binop, e]
theorem b_sneq (a b : List UInt8) : binop P t .neq (.one (.av (.str a))) (.one (.av (.str b))) = (True, .av (.bool (decide (a ≠ b)))) := by
  have e : (!(a == b)) = decide (a ≠ b) := by rw [Bool.eq_iff_iff]; simp
  simp only [binop, e]
theorem b_beql (a b : Bool) : binop P t .eql (.one (.av (.bool a))) (.one (.av (.bool b))) = ((tk P t).bl = true, .av (.bool (decide (a = b)))) := by
  have e : (a == b) = decide (a = b) := by rw [Bool.eq_iff_iff]; simp
  simp only [binop, e]
theorem b_bneq (a b : Bool) : binop P t .neq (.one (.av (.bool a))) (.one (.av (.bool b))) = ((tk P t).bl = true, .av (.bool (decide (a ≠ b)))) := by
  have e : (!(a == b)) = decide (a ≠ b) := by rw [Bool.eq_iff_iff]; simp
  simp only [binop, e]
theorem b_aeql (l l' : List SV) : binop P t .eql (.agg l) (.agg l') = (match avs l, avs l', eqL l l' with | some k1, some k2, some b => (StructEq P t ∧ kinA (tk P t).z k1 = true ∧ kinA (tk P t).z k2 = true, .av (.bool b)) | _, _, _ => (False, .junk)) := rfl
theorem b_aneq (l l' : List SV) : binop P t .neq (.agg l) (.agg l') = (match avs l, avs l', eqL l l' with | some k1, some k2, some b => (StructEq P t ∧ kinA (tk P t).z k1 = true ∧ kinA (tk P t).z k2 = true, .av (.bool (!b))) | _, _, _ => (False, .junk)) := rfl
theorem b_sadd (a b : List UInt8) : binop P t .add (.one (.av (.str a))) (.one (.av (.str b))) = (a.length + b.length ≤ maxLen, .av (.str (a ++ b))) := by simp [binop]
end

theorem inKi (n : Int) : inK .i64 n = (-9223372036854775808 ≤ n ∧ n ≤ 9223372036854775807) := rfl
theorem inKb (n : Int) : inK .u8 n = (0 ≤ n ∧ n ≤ 255) := rfl
theorem maxLen_eq : maxLen = 9223372036854775807 := rfl
theorem o_i64 (n : Int) (h : (decide (-9223372036854775808 ≤ n) && decide (n ≤ 9223372036854775807)) = true) : ofVT (.int .i64 n) = .one (.av (.int .i64 n)) := by
  simp only [Bool.and_eq_true, decide_eq_true_eq] at h
  have : IntKind.i64.min ≤ n ∧ n ≤ IntKind.i64.max := h
  simp only [ofVT, ofV, if_pos this]
theorem o_u8 (n : Int) (h : (decide (0 ≤ n) && decide (n ≤ 255)) = true) : ofVT (.int .u8 n) = .one (.av (.int .u8 n)) := by
  simp only [Bool.and_eq_true, decide_eq_true_eq] at h
  have : IntKind.u8.min ≤ n ∧ n ≤ IntKind.u8.max := h
  simp only [ofVT, ofV, if_pos this]
theorem o_bool (b : Bool) : ofVT (.bool b) = .one (.av (.bool b)) := rfl
theorem o_str (s : ByteArray) : ofVT (.string s) = .one (.av (.str s.data.toList)) := rfl
theorem o_nil : ofVT (.slice none 0 0) = .one (.av nilAV) := rfl
theorem ite_bool {α : Type} (p : Prop) [Decidable p] (x y : α) : (if p then x else y) = bif decide p then x else y := by by_cases h : p <;> simp [h]

/-- Nat equality, as looked up. -/
theorem lk_cons {α : Type} (d : α) (k : Nat) (v : α) (r : List (Nat × α)) (s : Nat) : lk d ((k, v) :: r) s = bif Nat.beq k s then v else lk d r s := by
  simp only [lk]
  by_cases h : k = s
  · subst h; simp
  · rw [if_neg h]
    cases e : Nat.beq k s with
    | true => exact absurd (Nat.eq_of_beq_eq_true e) h
    | false => rfl
theorem lk_nil {α : Type} (d : α) (s : Nat) : lk d [] s = d := rfl
theorem beq_self (n : Nat) : Nat.beq n n = true := by simp

theorem bif_and (b c : Bool) : (bif b then c else false) = (b && c) := by cases b <;> rfl
theorem bif_or (b c : Bool) : (bif b then true else c) = (b || c) := by cases b <;> rfl
theorem dec_and (p q : Prop) [Decidable p] [Decidable q] : (decide p && decide q) = decide (p ∧ q) := by by_cases hp : p <;> by_cases hq : q <;> simp [hp, hq]
theorem dec_or (p q : Prop) [Decidable p] [Decidable q] : (decide p || decide q) = decide (p ∨ q) := by by_cases hp : p <;> by_cases hq : q <;> simp [hp, hq]
theorem andF (a b : Bool) : ((a && b) = false) = (a = false ∨ b = false) := by cases a <;> cases b <;> simp
theorem orF (a b : Bool) : ((a || b) = false) = (a = false ∧ b = false) := by cases a <;> cases b <;> simp
theorem gbt (b : Bool) : (b == true) = b := by cases b <;> rfl
theorem gbf (b : Bool) : (b == false) = !b := by cases b <;> rfl

theorem eqAV_int (k : IntKind) (a b : Int) : eqAV (.int k a) (.int k b) = some (decide (a = b)) := by
  have e : (a == b) = decide (a = b) := by rw [Bool.eq_iff_iff]; simp
  simp only [eqAV, e, if_true]
theorem eqAV_bool (a b : Bool) : eqAV (.bool a) (.bool b) = some (decide (a = b)) := by
  have e : (a == b) = decide (a = b) := by rw [Bool.eq_iff_iff]; simp
  simp only [eqAV, e]
theorem eqAV_str (a b : List UInt8) : eqAV (.str a) (.str b) = some (decide (a = b)) := by
  have e : (a == b) = decide (a = b) := by rw [Bool.eq_iff_iff]; simp
  simp only [eqAV, e]

/-! ### '==' on structs -/

def flat1 : Option TypeDesc → Bool
  | some (.int _) => true
  | some .bool => true
  | some .string => true
  | _ => false
def kz : Option TypeDesc → AV → Bool
  | some (.int _), .int _ _ => true
  | some .bool, .bool _ => true
  | some .string, .str _ => true
  | _, _ => false
/-- The fields are integers, bools and strings, one behind the other. -/
def flatB (P : Program) : List Field → Nat → List AV → Bool
  | [], _, [] => true
  | f :: r, o, z :: zs => !(f.name == "_") && Nat.beq f.offset o && kz (P.underlying f.type) z && flatB P r (o + 1) zs
  | _, _, _ => false

theorem eqFields_flat {P : Program} {w : World} {d : Nat} {xs ys : Array Value} : ∀ (fs : List Field) (o : Nat) (z l l' : List AV) (b : Bool), flatB P fs o z = true → kinA z l = true → kinA z l' = true →
    (∀ (j : Nat) (a : AV), l[j]? = some a → ∃ x, xs[o + j]? = some x ∧ Rd w (fun _ => none) a x) → (∀ (j : Nat) (a : AV), l'[j]? = some a → ∃ x, ys[o + j]? = some x ∧ Rd w (fun _ => none) a x) →
    eqL (l.map .av) (l'.map .av) = some b → (Op.eqFields (d + 1) xs ys fs).run P w = .ok b w := by
  intro fs
  induction fs with
  | nil =>
    intro o z l l' b hf hk hk' _ _ he
    cases z with
    | nil =>
      cases l with
      | nil => cases l' with
        | nil => simp only [List.map_nil, eqL, Option.some.injEq] at he; subst he; rfl
        | cons => simp [kinA] at hk'
      | cons => simp [kinA] at hk
    | cons => simp [flatB] at hf
  | cons f fs ih =>
    intro o z l l' b hf hk hk' hx hy he
    cases z with
    | nil => simp [flatB] at hf
    | cons z zs =>
      cases l with
      | nil => simp [kinA] at hk
      | cons a l =>
        cases l' with
        | nil => simp [kinA] at hk'
        | cons a' l' =>
          simp only [flatB, Bool.and_eq_true, Bool.not_eq_true'] at hf
          obtain ⟨⟨⟨hn, ho⟩, hz⟩, hf⟩ := hf
          have ho := Nat.eq_of_beq_eq_true ho
          simp only [kinA, Bool.and_eq_true] at hk hk'
          obtain ⟨x, x1, x2⟩ := hx 0 a rfl
          obtain ⟨y, y1, y2⟩ := hy 0 a' rfl
          have hx' : ∀ (j : Nat) (a : AV), l[j]? = some a → ∃ x, xs[o + 1 + j]? = some x ∧ Rd w (fun _ => none) a x := fun j c hc => by
            obtain ⟨u, u1, u2⟩ := hx (j + 1) c (by simpa using hc)
            exact ⟨u, by rw [Nat.add_assoc, Nat.add_comm 1 j]; exact u1, u2⟩
          have hy' : ∀ (j : Nat) (a : AV), l'[j]? = some a → ∃ x, ys[o + 1 + j]? = some x ∧ Rd w (fun _ => none) a x := fun j c hc => by
            obtain ⟨u, u1, u2⟩ := hy (j + 1) c (by simpa using hc)
            exact ⟨u, by rw [Nat.add_assoc, Nat.add_comm 1 j]; exact u1, u2⟩
          simp only [Nat.add_zero] at x1 y1
          have hne : f.name ≠ "_" := by intro e; rw [e] at hn; simp at hn
          have hpart : ∀ (cs : Array Value) (v : Value), cs[o]? = some v → (part f.type cs f.offset).run P w = .ok v w := by
            intro cs v hv
            rw [ho]
            cases hu : P.underlying f.type with
            | none => rw [hu] at hz; cases z <;> simp [kz] at hz
            | some td => rw [hu] at hz; cases td <;> cases z <;> simp [kz] at hz <;> simp [part, isAgg, run_underlying hu, hv]
          simp only [List.map_cons, eqL] at he
          cases h1 : eqAV a a' with
          | none => rw [h1] at he; simp at he
          | some b1 =>
            cases h2 : eqL (l.map .av) (l'.map .av) with
            | none => rw [h1, h2] at he; simp at he
            | some b2 =>
              rw [h1, h2] at he
              simp only [Option.some.injEq] at he
              subst he
              have hrec := ih (o + 1) zs l l' b2 hf hk.2 hk'.2 hx' hy' h2
              have heq : (Op.equalIn (d + 1) f.type x y).run P w = .ok b1 w := by
                cases hu : P.underlying f.type with
                | none => rw [hu] at hz; cases z <;> simp [kz] at hz
                | some td =>
                  rw [hu] at hz
                  cases z with
                  | int k n =>
                    cases td <;> simp [kz] at hz
                    cases a <;> simp [kin1] at hk
                    cases a' <;> simp [kin1] at hk'
                    rename_i k1 n1 k2 n2
                    obtain ⟨rfl, _⟩ := x2
                    obtain ⟨rfl, _⟩ := y2
                    simp only [eqAV] at h1
                    split at h1
                    · rename_i e; subst e
                      simp only [Option.some.injEq] at h1
                      rw [run_equalIn_int w d f.type k1 _ n1 n2 hu, h1]
                    · cases h1
                  | bool n =>
                    cases td <;> simp [kz] at hz
                    cases a <;> simp [kin1] at hk
                    cases a' <;> simp [kin1] at hk'
                    rename_i b1' b2'
                    have x2 : x = .bool b1' := x2
                    have y2 : y = .bool b2' := y2
                    subst x2; subst y2
                    simp only [eqAV, Option.some.injEq] at h1
                    rw [run_equalIn_bool' w d f.type _ _ hu, h1]
                  | str n =>
                    cases td <;> simp [kz] at hz
                    cases a <;> simp [kin1] at hk
                    cases a' <;> simp [kin1] at hk'
                    rename_i s1 s2
                    have x2 : x = .string ⟨s1.toArray⟩ := x2
                    have y2 : y = .string ⟨s2.toArray⟩ := y2
                    subst x2; subst y2
                    simp only [eqAV, Option.some.injEq] at h1
                    rw [run_equalIn_string w d f.type _ _ hu, ← h1]
                    simp [ByteArray.toList_eq]
                  | _ => cases td <;> simp [kz] at hz
              simp only [Op.eqFields, hne, ne_eq, not_false_eq_true, if_true, Sem.run_bind, hpart xs x x1, hpart ys y y1, Result.andThen_ok, heq]
              cases b1 with
              | false => simp
              | true => simpa using hrec

theorem structEq_of {P : Program} {t : TypeId} {fs : Array Field} (hu : P.underlying t = some (.struct fs)) (hp : P.stoodInHeld t = false) (hm : P.eqGuardType P.depth t = false) (hf : flatB P fs.toList 0 (tk P t).z = true) : StructEq P t = True := by
  simp only [eq_iff_iff, iff_true]
  intro l l' xs ys w b _ _ hk hk' hx hy he x y
  have hfo : P.fieldsOf t = fs := by simp [Program.fieldsOf, hu]
  have hu' : P.underlying t = some (.struct (P.fieldsOf t)) := by rw [hfo]; exact hu
  have key : (Op.equalIn 10000 t (.agg xs) (.agg ys)).run P w = .ok b w := by
    rw [run_equalIn_struct w 9999 t xs ys hu' hp, hfo]
    exact eqFields_flat fs.toList 0 (tk P t).z l l' b hf hk hk' (fun j a hj => by simpa using hx j a hj) (fun j a hj => by simpa using hy j a hj) he
  refine ⟨run_eqGuard_agg w _ t x y xs ys hm, run_eqGuard_agg w _ t x y xs ys hm, ?_, ?_⟩
  · rw [run_eql_struct, key]; rfl
  · rw [run_neq_struct, key]; rfl

/-! ### Ends -/

theorem FinK.val {P : Program} {fin : Fin} {σ : St} {x : ResultVar} (hres : fin.res = [x]) (b : AT) (h0 : resOk P σ x) (h1 : (sto σ.H (resTV P σ x)).ok) (h2 : ALeT (atOf (sto σ.H (resTV P σ x)).cs (resTV P σ x)) b) (h3 : fin.R (.val b)) (h4 : fin.S σ.T) : FinK P fin σ := by
  unfold FinK
  rw [hres]
  exact ⟨h4, ⟨h0, h1, trivial⟩, .val b, h2, h3⟩
theorem FinK.val1 {P : Program} {σ : St} {t : Tmp} {b : AT} (h1 : (sto σ.H (σ.T t)).ok) (h2 : ALeT (atOf (sto σ.H (σ.T t)).cs (σ.T t)) b) : FinK P ⟨[.tmp t], fun r => r = .val b, fun _ => True⟩ σ :=
  FinK.val rfl b trivial h1 h2 rfl trivial
theorem FinK.cell1 {P : Program} {σ : St} {x : Tmp} {t : TypeId} {b : AT} (h0 : resOk P σ (.cell x t)) (h1 : (sto σ.H (resTV P σ (.cell x t))).ok) (h2 : ALeT (atOf (sto σ.H (resTV P σ (.cell x t))).cs (resTV P σ (.cell x t))) b) : FinK P ⟨[.cell x t], fun r => r = .val b, fun _ => True⟩ σ :=
  FinK.val rfl b h0 h1 h2 rfl trivial
theorem FinK.tup {P : Program} {res : List ResultVar} {σ : St} {l : List AT} (h1 : (resSto P σ σ.H res).1) (h2 : RLe (rvOf (resSto P σ σ.H res).2) (.tup l)) : FinK P ⟨res, fun r => r = .tup l, fun _ => True⟩ σ :=
  ⟨trivial, h1, .tup l, h2, rfl⟩
/-- The first argument's content is written: at the end it is a, and b is given. -/
theorem FinK.mut {P : Program} {σ : St} {t : Tmp} {a b : AV} (h0 : σ.T 0 = .one (.own 1 [] [0])) (h1 : (resSto P σ σ.H [.tmp 0, .tmp t]).1) (h2 : RLe (rvOf (resSto P σ σ.H [.tmp 0, .tmp t]).2) (.tup [.one a, .one b])) :
    FinK P ⟨[.tmp 0, .tmp t], fun r => r = .tup [.one a, .one b], fun T => T 0 = .one (.own 1 [] [0])⟩ σ :=
  ⟨h0, h1, _, h2, rfl⟩

/-! ### Loops -/

def pickT (T : Nat → TV) : List Nat → List (Nat × TV)
  | [] => []
  | s :: r => (s, T s) :: pickT T r
def pickH (H : Nat → OB) : List Nat → List (Nat × OB)
  | [] => []
  | s :: r => (s, H s) :: pickH H r

theorem LoopK.intro {body : Code} {k : List It → St → Prop} {K : List It} {σ : St} (X : Type) (ts : X → List (Nat × TV)) (hs : X → List (Nat × OB)) (keep keepH : List Nat) (n : Nat) (Inv : X → Prop) (μ : X → Nat) (x0 : X)
    (h0 : Inv x0) (h1 : Le σ ⟨ts x0 ++ pickT σ.T keep, hs x0 ++ pickH σ.H keepH, n⟩)
    (h2 : ∀ x, Inv x → k (.code body :: .lp (fun σ' => ∃ x', Le σ' ⟨ts x' ++ pickT σ.T keep, hs x' ++ pickH σ.H keepH, n⟩ ∧ Inv x' ∧ μ x' < μ x) :: K) ⟨ts x ++ pickT σ.T keep, hs x ++ pickH σ.H keepH, n⟩) : LoopK body k K σ :=
  ⟨X, fun x => ⟨ts x ++ pickT σ.T keep, hs x ++ pickH σ.H keepH, n⟩, Inv, μ, ⟨x0, h0, h1⟩, h2⟩

/-! ### Calls -/

theorem CallK.one {P : Program} {f : FuncId} {args : List AT} {k : List It → St → Prop} {K : List It} {σ : St} {d : Option Tmp} {bw : Bool} {ts : List TV} {r : RV} (h : ACalls P f args (fun r' => r' = r)) (h1 : bw = true → clAll r.cells) (h2 : k K (σ.ret d bw r)) : CallK P f args k K σ d bw ts :=
  .inl ⟨_, h, fun r' e => by subst e; exact ⟨h1, h2⟩⟩
theorem CallK.mut {P : Program} {f : FuncId} {args l' : List AT} {k : List It → St → Prop} {K : List It} {σ : St} {d : Option Tmp} {bw : Bool} {r : Nat} {p : Path} {vs : List Nat} {l : List TV} {a x : AV} {i : Int} (h : AMut P f a l' x i) (ha : (σ.H r).a.at p = a) (hl : (borA σ.H l).2 = (false, l')) (hes : x.es = a.es)
    (h2 : k K (σ.put d (.one (.av (.int .i64 i))) [(r, ⟨(σ.H r).a.putA p x, bump (σ.H r).vs (p.length + 1)⟩)] (σ.n + 1))) : CallK P f args k K σ d bw (.one (.own r p vs) :: l) :=
  .inr (.inl ⟨x, i, by rw [ha, hl]; exact h, by rw [hl], by rw [ha]; exact hes, h2⟩)
theorem CallK.wrap {P : Program} {f : FuncId} {args : List AT} {k : List It → St → Prop} {K : List It} {σ : St} {d : Option Tmp} {bw : Bool} {l : List SV} {i : Int} {m : Nat} {parts : List (FuncId × Nat)} (h : WrapOf P f m parts) (hm : m = l.length)
    (h2 : partsM P l parts i σ fun σ' i' => k K (σ'.put d (.one (.av (.int .i64 i'))) [] (σ'.n + 1))) : CallK P f args k K σ d bw [.agg l, .one (.av (.int .i64 i))] :=
  .inr (.inl ⟨parts, by rw [← hm]; exact h, h2⟩)
theorem CallK.take {P : Program} {f : FuncId} {args l' : List AT} {k : List It → St → Prop} {K : List It} {σ : St} {d : Option Tmp} {bw : Bool} {r : Nat} {p : Path} {vs : List Nat} {l : List TV} {a x : AV} (h : ATake P f a l' x) (ha : (σ.H r).a.at p = a) (hl : (borA σ.H l).2 = (false, l')) (hn : Nat.beq r σ.n = false)
    (h2 : k K (σ.put d (.one (.own σ.n [] [0])) [(σ.n, ⟨x, []⟩), (r, (σ.H r).cut p)] (σ.n + 1))) : CallK P f args k K σ d bw (.one (.own r p vs) :: l) :=
  .inr (.inr ⟨x, by rw [ha, hl]; exact h, by rw [hl], hn, h2⟩)
theorem partsM_one {P : Program} {l : List SV} {g : FuncId} {c : Nat} {r : List (FuncId × Nat)} {i i' : Int} {σ : St} {Q : St → Int → Prop} {o : Nat} {p : Path} {vs : List Nat} {a x : AV} (h : AMut P g a [.one (.int .i64 i)] x i') (hl : gl .junk l c = .own o p vs) (hv : (σ.H o).live p vs) (ha : (σ.H o).a.at p = a) (hes : x.es = a.es)
    (h2 : partsM P l r i' (σ.put none (.one .junk) [(o, ⟨(σ.H o).a.putA p x, bump (σ.H o).vs (p.length + 1)⟩)] (σ.n + 1)) Q) : partsM P l ((g, c) :: r) i σ Q := by
  simp only [partsM, hl]
  exact ⟨hv, x, i', by rw [ha]; exact h, by rw [ha]; exact hes, h2⟩
theorem partsM_nil {P : Program} {l : List SV} {i : Int} {σ : St} {Q : St → Int → Prop} (h : Q σ i) : partsM P l [] i σ Q := h
theorem CallG.one {P : Program} {gc : Bool} {f : FuncId} {args : List AT} {k : List It → St → Prop} {K : List It} {σ : St} {d : Option Tmp} {bw : Bool} {a : AT} (hp : gPl bw a = true) (h : gc = true → ACalls P f args (fun r' => r' = .val a)) (h2 : k K (σ.put d (.cnd gc a.cv) [] (σ.n + 1 + a.cells.length))) : CallG P gc f args k K σ d bw :=
  ⟨a, hp, h, h2⟩
theorem CallE.one {P : Program} {N : Nat} {ops : Array Oper} {k : List It → St → Prop} {K : List It} {l : List (Nat × Oper)} {f : FuncId} {args : List AT} {log : List Ent} {j : Nat} {rd : List Nat} {σ : St} {d : Option Tmp} {bw : Bool} {r : RV} (h : ACalls P f args (fun r' => r' = r)) (h1 : bw = true → clAll r.cells) (h3 : Nat.ble r.cells.length 62 = true)
    (h2 : drun P N ops k K l (log ++ [⟨j, rd, dbl (keys (objs (σ.n + 1) r.cells))⟩]) (σ.put d (instR bw (σ.n + 1) r) (objs (σ.n + 1) r.cells) (σ.n + 64))) : CallE P N ops k K l f args log j rd σ d bw :=
  ⟨r, h, h1, h3, h2⟩
theorem CallEG.one {P : Program} {N : Nat} {ops : Array Oper} {k : List It → St → Prop} {K : List It} {l : List (Nat × Oper)} {gc : Bool} {f : FuncId} {args : List AT} {log : List Ent} {j : Nat} {rd : List Nat} {σ : St} {d : Option Tmp} {bw : Bool} {a : AT} (hp : gPl bw a = true) (hl : Nat.ble a.cells.length 62 = true) (h : gc = true → ACalls P f args (fun r' => r' = .val a))
    (h2 : drun P N ops k K l (log ++ [⟨j, rd, []⟩]) (σ.put d (.cnd gc a.cv) [] (σ.n + 64))) : CallEG P N ops k K l gc f args log j rd σ d bw :=
  ⟨a, hp, hl, h, h2⟩

theorem cl_gf {α : Type} {cs : α → List AV} {d : α} {l : List α} {nl : Option Bool} {es n : Nat} (h : ∀ a, ∀ c ∈ cs a, c.cl) : (AV.sl true nl es n (gf cs d l)).cl := by
  intro i _ j _
  show (gl .junk (cs (l.getD i d)) j).cl
  rcases gl_mem (d := AV.junk) (l := cs (l.getD i d)) (i := j) with e | e
  · exact h _ _ e
  · rw [e]; trivial
theorem cl_I (nl : Option Bool) (es n : Nat) (l : List Int) : (AV.sl true nl es n (fI l)).cl = True := by
  simp only [eq_iff_iff, iff_true]
  exact cl_gf (fun a c hc => by simp [cI] at hc; subst hc; trivial)
theorem cl_L (nl : Option Bool) (es n : Nat) (l : List (List Int)) : (AV.sl true nl es n (fL true l)).cl = True := by
  simp only [eq_iff_iff, iff_true]
  exact cl_gf (fun a c hc => by simp [cL] at hc; subst hc; rw [cl_I]; trivial)

theorem ALe.of {u : Bool} {nl nl' : Option Bool} {es n n' : Nat} {f g : Nat → Nat → AV} (hnl : nl' = none ∨ nl' = nl) (hn : n = n') (h : ∀ i, i < n → ∀ j, j < es → ALe (f i j) (g i j)) : ALe (.sl u nl es n f) (.sl u nl' es n' g) := by
  subst hn
  rcases hnl with rfl | rfl
  · exact .trans _ _ _ (.sl u nl es n f g h) (.nl u nl es n g)
  · exact .sl u _ es n f g h

/-- A row that is filled from the left: one element more. -/
theorem rowsLe {i' i j k : Nat} {ys : List AV} {E : Nat → List AV} {Z : List AV} (hj : j < k) (hE : ys = E i) : ALe (if i' = i ∧ 0 ≤ j ∧ j < k then gl .junk ys j else gl .junk (if i' < i then E i' else Z) j) (gl .junk (if i' < i + 1 then E i' else Z) j) := by
  by_cases h : i' = i
  · subst h
    rw [if_pos ⟨rfl, Nat.zero_le _, hj⟩, if_pos (by omega), hE]
    exact .refl _
  · rw [if_neg (fun e => h e.1)]
    by_cases h2 : i' < i
    · rw [if_pos h2, if_pos (by omega)]; exact .refl _
    · rw [if_neg h2, if_neg (by omega)]; exact .refl _

theorem ale_junk0 {a b : AV} (h : ALe a b) : a = .junk → b = .junk := by
  induction h with
  | refl a => exact id
  | junk a => exact fun _ => rfl
  | trans a b c _ _ ih ih' => exact fun e => ih' (ih e)
  | _ => intro e; cases e
theorem ale_junk {b : AV} (h : ALe .junk b) : b = .junk := ale_junk0 h rfl
theorem ale_int_l0 {k : IntKind} {n : Int} {a b : AV} (h : ALe a b) : a = .int k n → b = .int k n ∨ b = .junk := by
  induction h with
  | refl a => exact .inl
  | junk a => exact fun _ => .inr rfl
  | trans a b c _ h2 ih ih' =>
    intro e
    rcases ih e with h | h
    · exact ih' h
    · subst h; exact .inr (ale_junk h2)
  | _ => intro e; cases e
theorem ale_int_l {k : IntKind} {n : Int} {b : AV} (h : ALe (.int k n) b) : b = .int k n ∨ b = .junk := ale_int_l0 h rfl
theorem ale_bool_l0 {n : Bool} {a b : AV} (h : ALe a b) : a = .bool n → b = .bool n ∨ b = .junk := by
  induction h with
  | refl a => exact .inl
  | junk a => exact fun _ => .inr rfl
  | trans a b c _ h2 ih ih' =>
    intro e
    rcases ih e with h | h
    · exact ih' h
    · subst h; exact .inr (ale_junk h2)
  | _ => intro e; cases e
theorem ale_bool_l {n : Bool} {b : AV} (h : ALe (.bool n) b) : b = .bool n ∨ b = .junk := ale_bool_l0 h rfl
theorem ale_str_l0 {n : List UInt8} {a b : AV} (h : ALe a b) : a = .str n → b = .str n ∨ b = .junk := by
  induction h with
  | refl a => exact .inl
  | junk a => exact fun _ => .inr rfl
  | trans a b c _ h2 ih ih' =>
    intro e
    rcases ih e with h | h
    · exact ih' h
    · subst h; exact .inr (ale_junk h2)
  | _ => intro e; cases e
theorem ale_str_l {n : List UInt8} {b : AV} (h : ALe (.str n) b) : b = .str n ∨ b = .junk := ale_str_l0 h rfl
theorem ale_refl (a : AV) : ALe a a = True := by simp [ALe.refl]
theorem ale_int (k : IntKind) (a b : Int) : ALe (.int k a) (.int k b) = (a = b) := by
  apply propext
  constructor
  · intro h; rcases ale_int_l h with h | h
    · cases h; rfl
    · cases h
  · rintro rfl; exact .refl _
theorem ale_bool (a b : Bool) : ALe (.bool a) (.bool b) = (a = b) := by
  apply propext
  constructor
  · intro h; rcases ale_bool_l h with h | h
    · cases h; rfl
    · cases h
  · rintro rfl; exact .refl _
theorem ale_str (a b : List UInt8) : ALe (.str a) (.str b) = (a = b) := by
  apply propext
  constructor
  · intro h; rcases ale_str_l h with h | h
    · cases h; rfl
    · cases h
  · rintro rfl; exact .refl _

end Go.AM
/- The framework AM, part 26: arguments that are read as data, as abstract values. -/
namespace Go.AM
open Go Go.RowKit Go.WideShapes Go.ChangeShapes
/-- The cells of a type, in order. -/
inductive RT where
  | nil
  | int (k : IntKind) (r : RT)
  | bool (r : RT)
  | str (r : RT)
  | sl (e r : RT)

def RT.len : RT → Nat
  | .nil => 0
  | .int _ r => r.len + 1
  | .bool r => r.len + 1
  | .str r => r.len + 1
  | .sl _ r => r.len + 1
def RT.app : RT → RT → RT
  | .nil, s => s
  | .int k r, s => .int k (r.app s)
  | .bool r, s => .bool (r.app s)
  | .str r, s => .str (r.app s)
  | .sl e r, s => .sl e (r.app s)

/-- Abstract values of these cells. -/
def RT.has : RT → List AV → Prop
  | .nil, l => l = []
  | .int k r, l => ∃ n m, l = .int k n :: m ∧ inK k n ∧ r.has m
  | .bool r, l => ∃ b m, l = .bool b :: m ∧ r.has m
  | .str r, l => ∃ s m, l = .str s :: m ∧ s.length ≤ 2 ^ 47 ∧ r.has m
  | .sl e r, l => ∃ n f m, l = .sl false none e.len n f :: m ∧ n ≤ 2 ^ 47 ∧ (∀ i, i < n → ∃ row, e.has row ∧ ∀ j, f i j = gl .junk row j) ∧ r.has m

theorem RT.has_len : ∀ {r : RT} {l : List AV}, r.has l → l.length = r.len
  | .nil, l, h => by cases h; rfl
  | .int k r, l, h => by obtain ⟨n, m, rfl, _, h⟩ := h; simp [RT.len, RT.has_len h]
  | .bool r, l, h => by obtain ⟨n, m, rfl, h⟩ := h; simp [RT.len, RT.has_len h]
  | .str r, l, h => by obtain ⟨n, m, rfl, _, h⟩ := h; simp [RT.len, RT.has_len h]
  | .sl e r, l, h => by obtain ⟨n, f, m, rfl, _, _, h⟩ := h; simp [RT.len, RT.has_len h]
theorem RT.has_app : ∀ {r s : RT} {l m : List AV}, r.has l → s.has m → (r.app s).has (l ++ m)
  | .nil, s, l, m, h, h' => by cases h; exact h'
  | .int k r, s, l, m, h, h' => by obtain ⟨n, q, rfl, h1, h⟩ := h; exact ⟨n, _, rfl, h1, RT.has_app h h'⟩
  | .bool r, s, l, m, h, h' => by obtain ⟨n, q, rfl, h⟩ := h; exact ⟨n, _, rfl, RT.has_app h h'⟩
  | .str r, s, l, m, h, h' => by obtain ⟨n, q, rfl, h1, h⟩ := h; exact ⟨n, _, rfl, h1, RT.has_app h h'⟩
  | .sl e r, s, l, m, h, h' => by obtain ⟨n, f, q, rfl, h1, h2, h⟩ := h; exact ⟨n, f, _, rfl, h1, h2, RT.has_app h h'⟩
theorem RT.has_split : ∀ {r s : RT} {l : List AV}, (r.app s).has l → ∃ a b, l = a ++ b ∧ r.has a ∧ s.has b
  | .nil, s, l, h => ⟨[], l, rfl, rfl, h⟩
  | .int k r, s, l, h => by
    obtain ⟨n, q, rfl, h1, h⟩ := h
    obtain ⟨a, b, rfl, h2, h3⟩ := RT.has_split h
    exact ⟨_ :: a, b, rfl, ⟨n, a, rfl, h1, h2⟩, h3⟩
  | .bool r, s, l, h => by
    obtain ⟨n, q, rfl, h⟩ := h
    obtain ⟨a, b, rfl, h2, h3⟩ := RT.has_split h
    exact ⟨_ :: a, b, rfl, ⟨n, a, rfl, h2⟩, h3⟩
  | .str r, s, l, h => by
    obtain ⟨n, q, rfl, h1, h⟩ := h
    obtain ⟨a, b, rfl, h2, h3⟩ := RT.has_split h
    exact ⟨_ :: a, b, rfl, ⟨n, a, rfl, h1, h2⟩, h3⟩
  | .sl e r, s, l, h => by
    obtain ⟨n, f, q, rfl, h1, h0, h⟩ := h
    obtain ⟨a, b, rfl, h2, h3⟩ := RT.has_split h
    exact ⟨_ :: a, b, rfl, ⟨n, f, a, rfl, h1, h0, h2⟩, h3⟩

/-! ### What a type's cells are -/

mutual
def rtOf (P : Program) : Nat → TypeId → Option RT
  | 0, _ => none
  | m + 1, t => match P.underlying t with
    | some .bool => some (.bool .nil)
    | some (.int k) => some (.int k .nil)
    | some .string => some (.str .nil)
    | some (.slice e) => (match rtOf P m e with
      | some E => bif Nat.beq E.len (P.cellsOf e) && !Nat.beq E.len 0 && !Nat.beq (P.bytesOf e) 0 then some (.sl E .nil) else none
      | none => none)
    | some (.struct fs) => rtFs P m (P.cellsOf t) fs.toList 0
    | _ => none
def rtFs (P : Program) : Nat → Nat → List Field → Nat → Option RT
  | 0, _, _, _ => none
  | _ + 1, sz, [], o => bif Nat.beq o sz then some .nil else none
  | m + 1, sz, f :: r, o => match rtOf P m f.type, rtFs P m sz r (o + P.cellsOf f.type) with
    | some R, some S => bif Nat.beq f.offset o && Nat.beq R.len (P.cellsOf f.type) then some (R.app S) else none
    | _, _ => none
end

section
variable {H : Type} {enc : TypeId × Value → H} {P : Program} {w : World} {sp : Nat → Bool}

/-- Cells and abstract values. -/
def RdL (w : World) (l : List AV) (cs : List Value) : Prop := l.length = cs.length ∧ ∀ (j : Nat) (a : AV), l[j]? = some a → ∃ v, cs[j]? = some v ∧ Rd w (fun _ => none) a v

theorem RdL.one {a : AV} {v : Value} (h : Rd w (fun _ => none) a v) : RdL w [a] [v] := by
  refine ⟨rfl, fun j b hj => ?_⟩
  cases j with
  | zero => simp at hj; subst hj; exact ⟨v, rfl, h⟩
  | succ j => simp at hj
theorem RdL.app {l m : List AV} {cs ds : List Value} (h : RdL w l cs) (h' : RdL w m ds) : RdL w (l ++ m) (cs ++ ds) := by
  refine ⟨by simp [h.1, h'.1], fun j a hj => ?_⟩
  by_cases e : j < l.length
  · rw [List.getElem?_append_left e] at hj
    rw [List.getElem?_append_left (by rw [← h.1]; exact e)]
    exact h.2 j a hj
  · rw [List.getElem?_append_right (by omega)] at hj
    rw [List.getElem?_append_right (by rw [← h.1]; omega), ← h.1]
    exact h'.2 _ a hj

theorem mapM_get {α β : Type} {f : α → Option β} : ∀ {l : List α} {r : List β}, l.mapM f = some r → r.length = l.length ∧ ∀ (j : Nat) (x : α), l[j]? = some x → ∃ y, r[j]? = some y ∧ f x = some y
  | [], r, h => by simp at h; subst h; exact ⟨rfl, fun j x h => by simp at h⟩
  | a :: l, r, h => by
    simp only [List.mapM_cons, Option.bind_eq_bind, Option.bind_eq_some_iff, Option.pure_def, Option.some.injEq] at h
    obtain ⟨y, h1, q, h2, rfl⟩ := h
    obtain ⟨i1, i2⟩ := mapM_get h2
    refine ⟨by simp [i1], fun j x hj => ?_⟩
    cases j with
    | zero => simp at hj; subst hj; exact ⟨y, rfl, h1⟩
    | succ j => obtain ⟨z, f1, f2⟩ := i2 j x (by simpa using hj); exact ⟨z, by simpa using f1, f2⟩

theorem cells_get {base : Nat} {a : Addr} {n : Nat} {cs : List Value} (h : w.cells? base a n = some cs) : cs.length = n ∧ ∀ i, i < n → ∃ v, cs[i]? = some v ∧ w.cell? (a.add i) = some v := by
  unfold World.cells? at h
  split at h
  · obtain ⟨h1, h2⟩ := mapM_get h
    refine ⟨by simpa using h1, fun i hi => ?_⟩
    exact h2 i i (by simp [hi])
  · cases h

theorem cell_row {a : Addr} {v : Value} (h : w.cell? a = some v) : ∃ c T fz, a.spot = none ∧ w.heap[a.block]? = some (.cells c T fz) ∧ c[a.off]? = some v := by
  unfold World.cell? at h
  split at h
  · rename_i c T fz hc
    by_cases hs : a.spot.isSome
    · rw [if_pos hs] at h; cases h
    · rw [if_neg hs] at h
      exact ⟨c, T, fz, by simpa using hs, hc, h⟩
  · cases h

theorem add_block {a : Addr} {n : Nat} : (a.add n).block = a.block := by
  unfold Addr.add; split <;> rfl
theorem add_off {a : Addr} {n : Nat} : (a.add n).off = a.off + n := by
  unfold Addr.add; split
  · rename_i h; subst h; rfl
  · rfl

theorem weightsAll_mem {e : TypeId} : ∀ {l : List (DataW H)} {d : DataW H}, d ∈ l → ∀ n ∈ d.weights P e, n ∈ DataW.weightsAll P e l
  | x :: l, d, h, n, hn => by
    simp only [DataW.weightsAll, List.mem_append]
    rcases List.mem_cons.1 h with rfl | h
    · exact .inl hn
    · exact .inr (weightsAll_mem h n hn)

theorem reach_lt {n : Nat} (h : n ≤ reachBytes) : n ≤ 2 ^ 47 := Nat.le_trans h (by decide)

theorem beq_true {a b : Nat} (h : Nat.beq a b = true) : a = b := Nat.eq_of_beq_eq_true h

theorem bif_some {b : Bool} {α : Type} {x r : α} (h : (bif b then some x else none) = some r) : b = true ∧ x = r := by
  cases b with
  | true => simp at h; exact ⟨rfl, h⟩
  | false => simp at h

/-- What is read as data is what abstract values say. -/
theorem trod_has : ∀ (m : Nat),
    (∀ (t : TypeId) (R : RT) (n : Nat) (cs : List Value) (x : DataW H × List MemPlace), rtOf P m t = some R → DataW.trod enc P w 0 sp true n t cs = some x → (∀ k ∈ x.1.weights P t, k ≤ reachBytes) → ∃ l, R.has l ∧ RdL w l cs) ∧
    (∀ (sz : Nat) (fs : List Field) (o : Nat) (R : RT) (n : Nat) (cs : List Value) (xs : List (DataW H × List MemPlace)), rtFs P m sz fs o = some R → cs.length = sz →
      (∀ (i : Nat) (f : Field), fs[i]? = some f → DataW.trod enc P w 0 sp true n f.type ((cs.drop f.offset).take (P.cellsOf f.type)) = xs[i]?) → xs.length = fs.length →
      (∀ k ∈ DataW.weightsEach P (fs.map (·.type)) (xs.map (·.1)), k ≤ reachBytes) → o ≤ sz ∧ ∃ l, R.has l ∧ RdL w l (cs.drop o)) := by
  intro m
  induction m with
  | zero => exact ⟨fun t R n cs x h => by simp [rtOf] at h, fun sz fs o R n cs xs h => by simp [rtFs] at h⟩
  | succ m ih =>
    obtain ⟨ih1, ih2⟩ := ih
    refine ⟨fun t R n cs x h hx hw => ?_, fun sz fs o R n cs xs h hcs hx hxl hw => ?_⟩
    · simp only [rtOf] at h
      split at h
      · rename_i hu
        cases h
        obtain ⟨b, rfl, rfl⟩ := DataW.trod_bool hu hx
        exact ⟨[.bool b], ⟨b, [], rfl, rfl⟩, RdL.one rfl⟩
      · rename_i k hu
        cases h
        obtain ⟨i, rfl, rfl, hwf⟩ := DataW.trod_int hu hx
        have hk : inK k i := by
          simp only [Lit.wf, Bool.and_eq_true, decide_eq_true_eq] at hwf
          exact hwf
        exact ⟨[.int k i], ⟨i, [], rfl, hk, rfl⟩, RdL.one ⟨rfl, hk⟩⟩
      · rename_i hu
        cases h
        obtain ⟨s, rfl, rfl, _⟩ := DataW.trod_string hu hx
        have hl : s.data.toList.length ≤ 2 ^ 47 := reach_lt (hw _ (by simp [DataW.weights]))
        exact ⟨[.str s.data.toList], ⟨_, [], rfl, hl, rfl⟩, RdL.one (by show Value.string s = _; simp)⟩
      · rename_i e hu
        split at h
        · rename_i E hE
          obtain ⟨hb, rfl⟩ := bif_some h
          simp only [Bool.and_eq_true, Bool.not_eq_true'] at hb
          obtain ⟨⟨hlen, hne⟩, hby⟩ := hb
          have hlen := beq_true hlen
          have hne : E.len ≠ 0 := Nat.ne_of_beq_eq_false hne
          have hby : P.bytesOf e ≠ 0 := Nat.ne_of_beq_eq_false hby
          rcases DataW.trod_slice hu hx with ⟨rfl, rfl⟩ | ⟨a, len, cap, elems, rest, n', rfl, rfl, rfl, _, hlc, hcm, hel, hget, _, _⟩
          · exact ⟨[.sl false none E.len 0 (fun _ _ => .junk)], ⟨0, _, [], rfl, by omega, fun i hi => by omega, rfl⟩, RdL.one ⟨none, 0, rfl, Nat.le_refl _, Nat.zero_le _, ⟨fun _ => rfl, fun h => (by cases h)⟩, fun _ => rfl, fun h => absurd rfl h⟩⟩
          · have hrow : ∀ i, i < len → ∃ row ci, E.has row ∧ RdL w row ci ∧ w.cells? 0 (a.add (i * P.cellsOf e)) (P.cellsOf e) = some ci := by
              intro i hi
              have hg := hget i hi
              have hi' : i < elems.length := by omega
              rw [List.getElem?_eq_getElem hi'] at hg
              obtain ⟨ci, h1, h2⟩ := Option.bind_eq_some_iff.1 hg
              obtain ⟨row, g1, g2⟩ := ih1 e E n' ci _ hE h2 (fun k hk => hw k (by
                simp only [DataW.weights, hu, List.mem_cons, List.mem_append]
                exact .inr (.inl (weightsAll_mem (List.mem_map.2 ⟨_, List.getElem_mem hi', rfl⟩) k hk))))
              exact ⟨row, ci, g1, g2, h1⟩
            classical
            let F : Nat → List AV := fun i => if h : i < len then Classical.choose (hrow i h) else []
            have hF : ∀ i (h : i < len), ∃ ci, E.has (F i) ∧ RdL w (F i) ci ∧ w.cells? 0 (a.add (i * P.cellsOf e)) (P.cellsOf e) = some ci := by
              intro i h
              have := Classical.choose_spec (hrow i h)
              simp only [F, dif_pos h]
              exact this
            have hbound : len ≤ 2 ^ 47 := by
              have h1 : (elems.map (·.1)).length + (rest.map (·.1)).length ≤ ((elems.map (·.1)).length + (rest.map (·.1)).length) * P.bytesOf e := Nat.le_mul_of_pos_right _ (Nat.pos_of_ne_zero hby)
              have h2 := hw (((elems.map (·.1)).length + (rest.map (·.1)).length) * P.bytesOf e) (by simp only [DataW.weights, hu]; simp)
              have h3 := reach_lt h2
              simp at h1 h3
              omega
            refine ⟨[.sl false none E.len len (fun i j => gl .junk (F i) j)], ⟨len, _, [], rfl, hbound, fun i hi => ⟨F i, (hF i hi).choose_spec.1, fun j => rfl⟩, rfl⟩, RdL.one ?_⟩
            have hblk : len ≠ 0 → ∃ c T fz, a.spot = none ∧ w.heap[a.block]? = some (.cells c T fz) := by
              intro h0
              obtain ⟨ci, _, _, h3⟩ := hF 0 (by omega)
              obtain ⟨_, h4⟩ := cells_get h3
              obtain ⟨v, _, h5⟩ := h4 0 (by omega)
              obtain ⟨c, T, fz, q1, q2, _⟩ := cell_row h5
              rw [add_block, add_block] at q2
              refine ⟨c, T, fz, ?_, q2⟩
              simpa [Addr.add] using q1
            refine ⟨some a, cap, rfl, hlc, hcm, ⟨fun h => (by cases h), fun h => (by cases h)⟩, fun h => (by cases h), fun h0 => ?_⟩
            obtain ⟨c, T, fz, q1, q2⟩ := hblk h0
            refine ⟨a.block, a.off, c, T, fz, by cases a; simp at q1 ⊢; exact q1, rfl, q2, fun i hi j hj => ?_⟩
            obtain ⟨ci, h1, h2, h3⟩ := hF i hi
            obtain ⟨h4, h5⟩ := cells_get h3
            obtain ⟨v, g1, g2⟩ := h5 j (by omega)
            obtain ⟨c', T', fz', r1, r2, r3⟩ := cell_row g2
            rw [add_block, add_block, q2] at r2
            cases r2
            refine ⟨v, ?_, ?_⟩
            · have : ((a.add (i * P.cellsOf e)).add j).off = a.off + (i * E.len + j) := by
                rw [add_off, add_off, hlen]; omega
              rw [← this]; exact r3
            · have hjl : j < (F i).length := by rw [RT.has_len h1]; exact hj
              obtain ⟨v', k1, k2⟩ := h2.2 j _ (List.getElem?_eq_getElem hjl)
              rw [g1] at k1
              cases k1
              show Rd w (fun _ => none) (gl .junk (F i) j) v
              rw [gl_eq]
              simpa [List.getD, hjl] using k2
        · cases h
      · rename_i fs hu
        obtain ⟨xs, n', rfl, rfl, hl, hxl, hf⟩ := DataW.trod_struct hu hx
        obtain ⟨_, l, h1, h2⟩ := ih2 _ _ 0 R n' cs xs h hl (fun i f hi => hf i f (by simpa using hi)) (by simpa using hxl) (fun k hk => hw k (by simp only [DataW.weights, hu]; exact hk))
        exact ⟨l, h1, by simpa using h2⟩
      · cases h
    · cases fs with
      | nil =>
        simp only [rtFs] at h
        obtain ⟨h1, rfl⟩ := bif_some h
        have h1 := beq_true h1
        subst h1
        refine ⟨Nat.le_refl _, [], rfl, ?_⟩
        have : cs.drop o = [] := List.drop_eq_nil_of_le (by omega)
        rw [this]
        exact ⟨rfl, fun j a hj => by simp at hj⟩
      | cons f r =>
        simp only [rtFs] at h
        split at h
        · rename_i R' S hR hS
          obtain ⟨hb, rfl⟩ := bif_some h
          simp only [Bool.and_eq_true] at hb
          have hoff := beq_true hb.1
          have hlen := beq_true hb.2
          cases xs with
          | nil => simp at hxl
          | cons x xs =>
            have hx0 := hx 0 f rfl
            simp only [List.getElem?_cons_zero] at hx0
            have hweq : DataW.weightsEach P ((f :: r).map (·.type)) ((x :: xs).map (·.1)) = x.1.weights P f.type ++ DataW.weightsEach P (r.map (·.type)) (xs.map (·.1)) := rfl
            rw [hweq] at hw
            obtain ⟨l1, g1, g2⟩ := ih1 _ _ _ _ _ hR hx0 (fun k hk => hw k (List.mem_append_left _ hk))
            obtain ⟨ho, l2, g3, g4⟩ := ih2 _ _ _ _ n cs xs hS hcs (fun i f' hi => by
              have := hx (i + 1) f' (by simpa using hi)
              simpa using this) (by simpa using hxl) (fun k hk => hw k (List.mem_append_right _ hk))
            refine ⟨by omega, l1 ++ l2, RT.has_app g1 g3, ?_⟩
            have e : cs.drop o = (cs.drop o).take (P.cellsOf f.type) ++ cs.drop (o + P.cellsOf f.type) := by
              rw [← List.drop_drop]; exact (List.take_append_drop _ _).symm
            rw [e]
            rw [hoff] at g2
            exact g2.app g4
        · cases h
end

/-! ### Lean's data -/

/-- What holds of cells of these types holds of some data's cells. -/
def RdLe (a b : AV) : Prop := ∀ (w : World) (own : Own) (v : Value), Rd w own a v → Rd w own b v
def RdLeL : List AV → List AV → Prop
  | [], [] => True
  | a :: r, b :: s => RdLe a b ∧ RdLeL r s
  | _, _ => False
theorem RdLeL.refl : ∀ (l : List AV), RdLeL l l
  | [] => trivial
  | _ :: r => ⟨fun _ _ _ h => h, RdLeL.refl r⟩
theorem RdLeL.app : ∀ {a b c d : List AV}, RdLeL a b → RdLeL c d → RdLeL (a ++ c) (b ++ d)
  | [], [], _, _, _, h => h
  | [], _ :: _, _, _, h, _ => h.elim
  | _ :: _, [], _, _, h, _ => h.elim
  | _ :: _, _ :: _, _, _, h, h' => ⟨h.1, RdLeL.app h.2 h'⟩
theorem RdLeL.get : ∀ {l m : List AV}, RdLeL l m → l.length = m.length ∧ ∀ (j : Nat) (b : AV), m[j]? = some b → ∃ a, l[j]? = some a ∧ RdLe a b
  | [], [], _ => ⟨rfl, fun j b h => by simp at h⟩
  | [], _ :: _, h => h.elim
  | _ :: _, [], h => h.elim
  | x :: l, y :: m, h => by
    obtain ⟨h1, h2⟩ := h
    obtain ⟨i1, i2⟩ := RdLeL.get h2
    refine ⟨by simp [i1], fun j b hj => ?_⟩
    cases j with
    | zero => simp at hj; subst hj; exact ⟨x, rfl, h1⟩
    | succ j => obtain ⟨z, f1, f2⟩ := i2 j b (by simpa using hj); exact ⟨z, by simpa using f1, f2⟩

def Dec {α : Type} (R : RT) (cs : α → List AV) (good : α → Prop) : Prop := ∀ l, R.has l → ∃ x, good x ∧ RdLeL l (cs x)

theorem dec_int (k : IntKind) : Dec (.int k .nil) (fun n => [.int k n]) (inK k) := by
  rintro l ⟨n, m, rfl, h, rfl⟩
  exact ⟨n, h, RdLeL.refl _⟩
theorem dec_bool : Dec (.bool .nil) (fun n => [.bool n]) (fun _ => True) := by
  rintro l ⟨n, m, rfl, rfl⟩
  exact ⟨n, trivial, RdLeL.refl _⟩
theorem dec_str : Dec (.str .nil) (fun n => [.str n]) (fun s => s.length ≤ 2 ^ 47) := by
  rintro l ⟨n, m, rfl, h, rfl⟩
  exact ⟨n, h, RdLeL.refl _⟩
theorem dec_sl {α : Type} {E : RT} {cs : α → List AV} {good : α → Prop} (d : α) (h : Dec E cs good) : Dec (.sl E .nil) (fun l => [.sl false none E.len l.length (gf cs d l)]) (fun l => l.length ≤ 2 ^ 47 ∧ ∀ x ∈ l, good x) := by
  rintro l ⟨n, f, m, rfl, hn, hrow, rfl⟩
  have h1 : ∀ i, i < n → ∃ x, good x ∧ ∃ row, (∀ j, f i j = gl .junk row j) ∧ row.length = E.len ∧ RdLeL row (cs x) := by
    intro i hi
    obtain ⟨row, h2, h3⟩ := hrow i hi
    obtain ⟨x, h4, h5⟩ := h row h2
    exact ⟨x, h4, row, h3, RT.has_len h2, h5⟩
  classical
  let X : Nat → α := fun i => if h : i < n then Classical.choose (h1 i h) else d
  have hX : ∀ i (h : i < n), good (X i) ∧ ∃ row, (∀ j, f i j = gl .junk row j) ∧ row.length = E.len ∧ RdLeL row (cs (X i)) := by
    intro i h
    have := Classical.choose_spec (h1 i h)
    simp only [X, dif_pos h]
    exact this
  refine ⟨(List.range n).map X, ⟨by simpa using hn, fun x hx => ?_⟩, ?_, trivial⟩
  · simp only [List.mem_map, List.mem_range] at hx
    obtain ⟨i, hi, rfl⟩ := hx
    exact (hX i hi).1
  · rintro w own v ⟨a, cap, rfl, g1, g2, g3, g4, g5⟩
    refine ⟨a, cap, by simp, by simpa using g1, g2, g3, g4, fun h0 => ?_⟩
    obtain ⟨b, off, c, T, fz, rfl, k1, k2, k3⟩ := g5 (by simpa using h0)
    refine ⟨b, off, c, T, fz, rfl, k1, k2, fun i hi j hj => ?_⟩
    have hi : i < n := by simpa using hi
    obtain ⟨x, q1, q2⟩ := k3 i hi j hj
    refine ⟨x, q1, ?_⟩
    obtain ⟨_, row, r1, r2, r3⟩ := hX i hi
    obtain ⟨s1, s2⟩ := r3.get
    have e : ((List.range n).map X).getD i d = X i := by simp [List.getD, hi]
    show Rd w own (gl .junk (cs (((List.range n).map X).getD i d)) j) x
    rw [e]
    have hjr : j < (cs (X i)).length := by omega
    obtain ⟨a, t1, t2⟩ := s2 j _ (List.getElem?_eq_getElem hjr)
    have e2 : gl .junk (cs (X i)) j = (cs (X i))[j] := by rw [gl_eq]; simp [List.getD, hjr]
    have e3 : f i j = a := by rw [r1, gl_eq]; simp [List.getD, t1]
    rw [e2]
    rw [e3] at q2
    exact t2 w own x q2
theorem dec_app {α β : Type} {R S : RT} {cs : α → List AV} {ds : β → List AV} {g : α → Prop} {g' : β → Prop} (h : Dec R cs g) (h' : Dec S ds g') : Dec (R.app S) (fun (p : α × β) => cs p.1 ++ ds p.2) (fun p => g p.1 ∧ g' p.2) := by
  intro l hl
  obtain ⟨a, b, rfl, h1, h2⟩ := RT.has_split hl
  obtain ⟨x, i1, i2⟩ := h a h1
  obtain ⟨y, j1, j2⟩ := h' b h2
  exact ⟨(x, y), ⟨i1, j1⟩, i2.app j2⟩
theorem dec_map {α β : Type} {R : RT} {cs : α → List AV} {g : α → Prop} {ds : β → List AV} {g' : β → Prop} (f : α → β) (h : Dec R cs g) (e : ∀ x, ds (f x) = cs x) (hg : ∀ x, g x → g' (f x)) : Dec R ds g' := by
  intro l hl
  obtain ⟨x, i1, i2⟩ := h l hl
  exact ⟨f x, hg x i1, by rw [e]; exact i2⟩

/-! ### From a law's contract to what is said of it -/

section
variable {H : Type} {enc : TypeId × Value → H} {P : Program} {W : World}

theorem rel_of_one {a b : AV} {v : Value} (h : RdL W [a] v.cells.toList) (hv : ∀ cs, v ≠ .agg cs) (hle : RdLe a b) : RelA W (fun _ => none) (.one b) v := by
  obtain ⟨x, h1, h2⟩ := h.2 0 a rfl
  have : x = v := by
    cases v with
    | agg cs => exact absurd rfl (hv cs)
    | _ => simp [Value.cells] at h1; exact h1.symm
  rw [← this]
  exact hle _ _ _ h2

theorem rel_of_agg {l m : List AV} {cs : Array Value} (h : RdL W l (Value.agg cs).cells.toList) (hle : RdLeL l m) : RelA W (fun _ => none) (.agg m) (.agg cs) := by
  obtain ⟨e1, e2⟩ := hle.get
  have e3 : (Value.agg cs).cells.toList = cs.toList := rfl
  rw [e3] at h
  refine ⟨cs, rfl, by rw [← e1, h.1]; simp, fun j b hj => ?_⟩
  obtain ⟨a, f1, f2⟩ := e2 j b hj
  obtain ⟨x, g1, g2⟩ := h.2 j a f1
  exact ⟨x, by simpa using g1, f2 _ _ _ g2⟩

theorem trodAll_stays (hl : laidOutB P = true) {W W' : World} {sp : Nat → Bool} : ∀ {ts : List TypeId} {vs : List Value} {ds : List (DataW H)} {p : List MemPlace}, (∀ t ∈ ts, P.readableRec t = true ∧ t < P.types.size) →
    DataW.TrodAll enc P W 0 (fun _ => true) true ts vs ds p → (∀ q ∈ p, W.sameAt W' q) → (∀ q ∈ p, sp q.block = true) → DataW.TrodAll enc P W' 0 sp true ts vs ds p
  | [], [], [], p, _, h, _, _ => h
  | t :: ts, v :: vs, d :: ds, p, hr, h, h1, h2 => by
    obtain ⟨p1, p2, g1, g2, rfl⟩ := h
    refine ⟨p1, p2, ?_, trodAll_stays hl (fun t ht => hr t (by simp [ht])) g2 (fun q hq => h1 q (List.mem_append_right _ hq)) (fun q hq => h2 q (List.mem_append_right _ hq)), rfl⟩
    exact WideElems.Trod_stays hl (hr t (by simp)).1 (hr t (by simp)).2 g1 (fun q hq => h1 q (List.mem_append_left _ hq)) (fun q hq => h2 q (List.mem_append_left _ hq))
  | [], _ :: _, _, _, _, h, _, _ => h.elim
  | _ :: _, [], _, _, _, h, _, _ => h.elim
  | _ :: _, _ :: _, [], _, _, h, _, _ => h.elim
  | [], [], _ :: _, _, _, h, _, _ => h.elim

/-- A law that answers true, whatever it is given: its last step. -/
theorem law_post {f : Func} {s : ChangeSpec} {args : Array Value} {ds gs : List (DataW H)} {before : List MemPlace} {t : TypeId} {apart fresh handsOn again : Bool} (hW : DataW.Whole enc P f.params.toList s.vars apart W args.toList ds gs before)
    (hvars : s.vars = []) (hfn : s.fn H ds = { results := [.lit (.bool true)], args := ds }) (hl : laidOutB P = true) (hr : ∀ t ∈ f.params.toList, P.readableRec t = true ∧ t < P.types.size) (hrt : f.resultTypes = #[t]) (ht : P.underlying t = some .bool)
    {W' : World} (hb : Below W.heap.size W W') : s.post enc P f apart fresh handsOn again W args (.bool true) W' := by
  have hW0 := hW
  obtain ⟨p, q, h1, h2, rfl, hz, hnd⟩ := hW
  rw [hvars] at h2
  obtain ⟨rfl, rfl⟩ := trodVars_none h2
  simp only [List.append_nil] at *
  have hlt : ∀ x ∈ p, x.block < W.heap.size := fun x hx => hW0.lt x hx
  have hres : ∀ (b : Nat) (sp : Nat → Bool) (hd : Bool), DataW.TrodAll enc P W' b sp hd f.resultTypes.toList ((Value.bool true).resultList f.resultTypes.size) (s.fn H ds).results [] := by
    intro b sp hd
    rw [hrt, hfn]
    exact trodAll_mk1 (shut_bool ht true)
  have hargs : ∀ sp : Nat → Bool, (∀ x ∈ p, sp x.block = true) → DataW.TrodAll enc P W' 0 sp true f.params.toList args.toList (s.fn H ds).args p := by
    intro sp hsp
    rw [hfn]
    exact trodAll_stays hl hr h1 (fun x hx => hb.same (hlt x hx)) hsp
  have hvs : ∀ sp : Nat → Bool, DataW.TrodVars enc P W' sp s.vars (s.fn H ds).vars [] := by
    intro sp
    rw [hvars, hfn]
    rfl
  have hold : ∀ x ∈ p, (fun b => decide (b < W.heap.size)) x.block = true := fun x hx => by simpa using hlt x hx
  refine ⟨ds, [], p, [], p, [], hW0, ?_, ?_, ?_, World.keptBut_mono (fun x hx => ⟨hx, ?_⟩) (hb.frame (· ∈ p)), fun _ => ?_⟩
  · rw [List.append_nil]; exact hres _ _ _
  · rw [List.append_nil]; exact hargs _ hold
  · rw [List.append_nil]; exact hvs _
  · exact .inr (.inl hx)
  · refine ⟨ok_one hrt rfl (okWide_bool_mk ht true), (s.fn H ds).results ++ ds, [], [] ++ p, ⟨[] ++ p, [], ?_, ?_, by simp, ?_, ?_⟩, ?_⟩
    · have ha := hargs (fun _ => true) (fun _ _ => rfl)
      rw [hfn] at ha ⊢
      have hr' := hres 0 (fun _ => true) true
      rw [hfn] at hr'
      exact trodAll_append ha hr'
    · have := hvs (fun _ => true)
      rw [hvars] at this ⊢
      rfl
    · intro b off hp
      have hin : MemPlace.cell b off ∈ p := by simpa using hp
      rw [hb.frozen (hlt _ hin)]
      exact hz b off hin
    · intro ha
      have := hnd ha
      simpa using this
    · intro x hx _
      simpa using hx

theorem Keep.below {W W' : World} (h : Keep W (fun _ => False) W') : Below W.heap.size W W' :=
  ⟨h.os, h.tape, h.output, h.size, fun k hk => h.block k hk (fun e => e)⟩

/-- A law's call, as the row wants it. -/
theorem law_calls {fid : FuncId} {args : List AT} {vs : Array Value} (h : ACalls P fid args (fun r => r = .val (.one (.bool true)))) (hs : vs.size = args.length) (hr : ∀ (i : Nat) (t : AT), args[i]? = some t → ∃ v, vs[i]? = some v ∧ RelA W (fun _ => none) t v) :
    Calls P fid vs W fun e W' => e = .returned (.bool true) ∧ Below W.heap.size W W' := by
  refine (h.calls (fun _ => none) W vs (fun b hb => absurd rfl hb) hs hr).mono (fun e W' he => ?_)
  obtain ⟨v, r, rfl, rfl, hk, own', _, _, _, hrel⟩ := he
  have hv : v = .bool true := hrel
  exact ⟨by rw [hv], hk.below⟩

theorem law_args : ∀ {ts : List TypeId} {vs : List Value} {ds : List (DataW H)} {p : List MemPlace}, DataW.TrodAll enc P W 0 (fun _ => true) true ts vs ds p → (∀ k ∈ DataW.weightsEach P ts ds, k ≤ reachBytes) →
    ∀ (i : Nat) (t : TypeId), ts[i]? = some t → ∃ v, vs[i]? = some v ∧ ∀ (m : Nat) (R : RT), rtOf P m t = some R → ∃ l, R.has l ∧ RdL W l v.cells.toList
  | [], [], [], p, _, _, i, t, h => by simp at h
  | t0 :: ts, v :: vs, d :: ds, p, h, hw, i, t, hi => by
    obtain ⟨p1, p2, ⟨n, g1⟩, g2, rfl⟩ := h
    cases i with
    | zero =>
      simp at hi
      subst hi
      refine ⟨v, rfl, fun m R hR => ?_⟩
      exact (trod_has m).1 _ R n _ _ hR g1 (fun k hk => hw k (by simp only [DataW.weightsEach, List.mem_append]; exact .inl hk))
    | succ i =>
      obtain ⟨u, f1, f2⟩ := law_args g2 (fun k hk => hw k (by simp only [DataW.weightsEach, List.mem_append]; exact .inr hk)) i t (by simpa using hi)
      exact ⟨u, by simpa using f1, f2⟩
  | [], _ :: _, _, _, h, _, _, _, _ => h.elim
  | _ :: _, [], _, _, h, _, _, _, _ => h.elim
  | _ :: _, _ :: _, [], _, h, _, _, _, _ => h.elim
  | [], [], _ :: _, _, h, _, _, _, _ => h.elim

theorem trod_len : ∀ {ts : List TypeId} {vs : List Value} {ds : List (DataW H)} {p : List MemPlace}, DataW.TrodAll enc P W 0 (fun _ => true) true ts vs ds p → vs.length = ts.length ∧ ds.length = ts.length
  | [], [], [], p, _ => ⟨rfl, rfl⟩
  | t0 :: ts, v :: vs, d :: ds, p, h => by
    obtain ⟨p1, p2, _, g2, _⟩ := h
    obtain ⟨i1, i2⟩ := trod_len g2
    exact ⟨by simp [i1], by simp [i2]⟩
  | [], _ :: _, _, _, h => h.elim
  | _ :: _, [], _, _, h => h.elim
  | _ :: _, _ :: _, [], _, h => h.elim
  | [], [], _ :: _, _, h => h.elim

theorem okWide_struct {t : TypeId} {fs : Array Field} {v : Value} {r : Reach} {b : Nat} (hu : P.underlying t = some (.struct fs)) (h : Value.okWide P W r b t v) : ∃ cs, v = .agg cs := by
  unfold Value.okWide at h
  rw [hu] at h
  obtain ⟨cs, h, _⟩ := h
  exact ⟨cs, h⟩
theorem okWide_int {t : TypeId} {k : IntKind} {v : Value} {r : Reach} {b : Nat} (hu : P.underlying t = some (.int k)) (h : Value.okWide P W r b t v) : ∀ cs, v ≠ .agg cs := by
  rintro cs rfl
  simp [Value.okWide, hu, Cell.okWide, Cell.ok] at h
theorem okWide_str {t : TypeId} {v : Value} {r : Reach} {b : Nat} (hu : P.underlying t = some .string) (h : Value.okWide P W r b t v) : ∀ cs, v ≠ .agg cs := by
  rintro cs rfl
  simp [Value.okWide, hu, Cell.okWide, Cell.ok] at h
theorem okWide_bl {t : TypeId} {v : Value} {r : Reach} {b : Nat} (hu : P.underlying t = some .bool) (h : Value.okWide P W r b t v) : ∀ cs, v ≠ .agg cs := by
  rintro cs rfl
  simp [Value.okWide, hu, Cell.okWide, Cell.ok] at h
theorem okWide_slice {t e : TypeId} {v : Value} {r : Reach} {b : Nat} (hu : P.underlying t = some (.slice e)) (h : Value.okWide P W r b t v) : ∀ cs, v ≠ .agg cs := by
  rintro cs rfl
  simp [Value.okWide, hu, Cell.okWide, Cell.ok] at h

/-- An argument that is a struct; one that is none. -/
theorem arg_agg {α : Type} {t : TypeId} {fs : Array Field} {v : Value} {r : Reach} {b m : Nat} {R : RT} {cs : α → List AV} {good : α → Prop} (hu : P.underlying t = some (.struct fs)) (hv : Value.okWide P W r b t v) (hR : rtOf P m t = some R)
    (h : ∀ (m : Nat) (R : RT), rtOf P m t = some R → ∃ l, R.has l ∧ RdL W l v.cells.toList) (hd : Dec R cs good) : ∃ x, good x ∧ RelA W (fun _ => none) (.agg (cs x)) v := by
  obtain ⟨c, rfl⟩ := okWide_struct hu hv
  obtain ⟨l, h1, h2⟩ := h m R hR
  obtain ⟨x, h3, h4⟩ := hd l h1
  exact ⟨x, h3, rel_of_agg h2 h4⟩
theorem arg_one {α : Type} {t : TypeId} {v : Value} {m : Nat} {R : RT} {c : α → AV} {good : α → Prop} (hv : ∀ cs, v ≠ .agg cs) (hR : rtOf P m t = some R)
    (h : ∀ (m : Nat) (R : RT), rtOf P m t = some R → ∃ l, R.has l ∧ RdL W l v.cells.toList) (hd : Dec R (fun x => [c x]) good) : ∃ x, good x ∧ RelA W (fun _ => none) (.one (c x)) v := by
  obtain ⟨l, h1, h2⟩ := h m R hR
  obtain ⟨x, h3, h4⟩ := hd l h1
  cases l with
  | nil => exact h4.elim
  | cons a l => cases l with
    | nil => exact ⟨x, h3, rel_of_one h2 hv h4.1⟩
    | cons b l => exact h4.2.elim

theorem dec_I : Dec (.int .i64 .nil) cI (inK .i64) := dec_int .i64
theorem dec_ints : Dec (.sl (.int .i64 .nil) .nil) (fun l => [aI false l]) (fun l => l.length ≤ 2 ^ 47 ∧ ∀ x ∈ l, inK .i64 x) := dec_sl 0 dec_I
theorem dec_rows : Dec (.sl (.sl (.int .i64 .nil) .nil) .nil) (fun l => [aL false false l]) (fun l => l.length ≤ 2 ^ 47 ∧ ∀ r ∈ l, r.length ≤ 2 ^ 47) :=
  dec_map id (dec_sl [] dec_ints) (fun _ => rfl) (fun _ h => ⟨h.1, fun r hr => (h.2 r hr).1⟩)
end
end Go.AM
/- The framework AM, part 27: functions that write into their first argument's memory. -/
namespace Go.AM
open Go
section
variable {N : Nat} {w0 : World} {E A : Nat → Prop} {F : Frm} {a : Act} {w w' : World} {own own' : Own} {rt : Rt} {P : Program} {n : Nat} {σ : St}

theorem fin_soundM {t : Tmp} {own0 : Own} {v0 : Value} {x : AV} {i : Int} (hs : SRf N w0 E F A σ.T σ.H a w own rt) (hn : ¬ A n) (hE : ∀ c, E c ↔ ∃ q, own0 c = some (1, q)) (hF : ∀ c, F.b c ↔ own0 c = some (0, [])) (hz : F.z 1 = some v0)
    (hfin : FinK P ⟨[.tmp 0, .tmp t], fun r => r = .tup [.one x, .one (.int .i64 i)], fun T => T 0 = .one (.own 1 [] [0])⟩ σ) :
    GivesM w0 own0 w x i v0 (a.tmps.getD t undef) := by
  obtain ⟨h0, hok, r, hle, rfl⟩ := hfin
  have hH := hs.dead n hn
  have n0 := not_zero hs.toWRf hn
  have hgot := fun x hx => resOk_got (P := P) hs (resSto_ok hok x hx)
  have hlive : (σ.H 1).live [] [0] := by
    have := hok.2.1
    simp only [resTV] at this
    rw [h0] at this
    exact this
  have hv0 : a.tmps.getD 0 undef = v0 := by
    have e1 := hs.tmp 0
    rw [h0] at e1
    have e1 := e1.2 hlive
    have e2 := (hs.frz 1 v0 hz).2.2 hlive
    rw [e1] at e2
    exact Option.some.inj e2
  obtain ⟨own1, H1, g1, g2, g3⟩ := gatherR (a := a) (n := n) (.inr rfl) [.tmp 0, .tmp t] 0 σ.H own (hs.toWRf.more n) hH (fun x hx => (hgot x hx).2) hok
  have h0' : ∀ b o, own1 b = none → w.heap[b]? = some o → rest own1 n b = none ∧ w.heap[b]? = some o := fun b o e1 e2 => ⟨by simp [rest, e1], e2⟩
  have key : ∀ {b : AV} {c : Nat} {x : Value}, Ow w own1 n b [(0, c)] x → Ow w (rest own1 n) (1 + c) b [] x := fun h =>
    Ow.mono h0' _ _ _ _ (fun b o q e1 e2 => ⟨by simp [rest, e1, n0], e2⟩) h
  have key1 : ∀ {t : AT} {c : Nat} {v : Value}, RelF w own1 n c t v → RelR1 w (rest own1 n) (1 + c) t v := by
    intro t c v h
    cases t with
    | one b => exact key h
    | agg l =>
      obtain ⟨cs, rfl, h1, h2⟩ := h
      exact ⟨cs, rfl, h1, fun j b hj => let ⟨x, f1, f2⟩ := h2 j b hj; ⟨x, f1, by rw [Nat.add_assoc]; exact key f2⟩⟩
  have keyL : ∀ (l : List AT) (c : Nat) (vs : List Value), RelFL w own1 n c l vs → RelRL w (rest own1 n) (1 + c) l vs := by
    intro l
    induction l with
    | nil => intro c vs h; cases vs <;> exact h
    | cons t l ih =>
      intro c vs h
      cases vs with
      | nil => exact h.elim
      | cons v vs => exact ⟨key1 h.1, by rw [Nat.add_assoc]; exact ih _ vs h.2⟩
  have hL := keyL _ 0 _ g3
  have hR : RelR w (rest own1 n) (rvOf (resSto P σ σ.H [.tmp 0, .tmp t]).2) (.tuple #[a.tmps.getD 0 undef, a.tmps.getD t undef]) := ⟨_, rfl, hL⟩
  obtain ⟨cs, e, hr⟩ := RLe.rel hle hR
  cases e
  obtain ⟨r1, r2, _⟩ := hr
  refine ⟨⟨hs.keep.os, hs.keep.tape, hs.keep.output, hs.keep.size, fun b h1 h2 => hs.keep.block b h1 (fun h => h2 ((hE b).1 h))⟩, rest own1 n, fun b y e => ?_, fun b hb e => ?_, fun b e => ?_, fun b k q hb e hk => ?_, ?_, r2⟩
  · cases ho : own1 b with
    | none => simp [rest, ho] at e
    | some y => exact (g1.dom b y ho).1
  · cases ho : own1 b with
    | none => simp [rest, ho]
    | some y =>
      rcases (g1.dom b y ho).2 with e' | e' | e'
      · omega
      · obtain ⟨q, e'⟩ := (hE b).1 e'; rw [e] at e'; cases e'
      · have e' := (hF b).1 e'; rw [e] at e'; cases e'
  · have := g1.frn b ((hF b).2 e)
    simp [rest, this]
  · cases ho : own1 b with
    | none => simp [rest, ho] at e
    | some y =>
      rcases (g1.dom b y ho).2 with e' | e' | e'
      · omega
      · exact (hE b).1 e'
      · simp only [rest, g1.frn b e', if_true, Option.some.injEq, Prod.mk.injEq] at e
        exact absurd e.1.symm hk
  · rw [← hv0]; exact r1

/-- The contract out of the run of the body. -/
theorem AMut.of_run {f : FuncId} {fn : Func} {c : Code} {b : AV} {args : List AT} {x : AV} {i : Int} {m : Nat} {t : Tmp} (hmx : P.follows .mixedOrders = true) (hf : P.funcs[f]? = some fn) (hb : fn.body = some c) (hname : (fn.name == "runtime.NumGoroutine") = false) (hlen : args.length + 1 ≤ fn.ntmps) (hres : fn.results.toList = [.tmp t])
    (h : arun P fn.ntmps ⟨[.tmp 0, .tmp t], fun r => r = .tup [.one x, .one (.int .i64 i)], fun T => T 0 = .one (.own 1 [] [0])⟩ m [.code c] ⟨(0, .one (.own 1 [] [0])) :: startT 1 args, [(1, ⟨b, []⟩)], 5⟩) : AMut P f b args x i := by
  refine ⟨fun vs w => ?_, fun own0 w vs v0 hown hrt hvs hv0 how hargs => ?_⟩
  · have hne : ¬ fn.name = "runtime.NumGoroutine" := by intro e; rw [e] at hname; exact absurd hname (by decide)
    simp [callFunc, hf, hb, hne]
  · refine calls_of_wp hf hb ?_
    have hFr : ∀ k, (if k = 1 then some v0 else none) ≠ none → 0 < k ∧ k ≤ 4 := by
      intro k hk
      by_cases e : k = 1
      · omega
      · rw [if_neg e] at hk; exact absurd rfl hk
    have hstart : SR fn.ntmps w (fun c => ∃ q, own0 c = some (1, q)) (⟨fun b => own0 b = some (0, []), fun k => if k = 1 then some v0 else none, hFr⟩ : Frm) ⟨(0, .one (.own 1 [] [0])) :: startT 1 args, [(1, ⟨b, []⟩)], 5⟩ { tmps := vs ++ Array.replicate (fn.ntmps - vs.size) undef, defers := [] } w := by
      have hHk : ∀ k, (St.H ⟨(0, .one (.own 1 [] [0])) :: startT 1 args, [(1, ⟨b, []⟩)], 5⟩) k = if k = 1 then ⟨b, []⟩ else .dead := by
        intro k
        show lk OB.dead [(1, ⟨b, []⟩)] k = _
        simp only [lk]
        by_cases e : k = 1
        · subst e; rfl
        · rw [if_neg e, if_neg (fun h => e h.symm)]
      have hT0 : ∀ s, (St.T ⟨(0, .one (.own 1 [] [0])) :: startT 1 args, [(1, ⟨b, []⟩)], 5⟩) s = if s = 0 then .one (.own 1 [] [0]) else (match args[s - 1]? with | some t => t.tv | none => .junk) := by
        intro s
        show lk TV.junk ((0, TV.one (.own 1 [] [0])) :: startT 1 args) s = _
        simp only [lk]
        by_cases e : s = 0
        · subst e; rfl
        · rw [if_neg e, if_neg (fun h => e h.symm), lk_startT, if_pos (by omega)]; try rfl
      have hown1 : RelT w own0 (fun k => if k = 1 then v0 else undef) (St.H ⟨(0, .one (.own 1 [] [0])) :: startT 1 args, [(1, ⟨b, []⟩)], 5⟩) (.one (.own 1 [] [0])) v0 := by
        refine ⟨vle_zero [] _, fun hl => ?_⟩
        rw [hdr_nil]; exact congrArg some (if_pos rfl)
      have hgetv : ∀ s v, vs[s]? = some v → (vs ++ Array.replicate (fn.ntmps - vs.size) undef).getD s undef = v := by
        intro s v h1
        have hlt : s < vs.size := (Array.getElem?_eq_some_iff.1 h1).1
        rw [Array.getD_eq_getD_getElem?, Array.getElem?_append_left hlt, h1]; rfl
      refine ⟨fun k => k = 0 ∨ k = 1, own0, fun k => if k = 1 then v0 else undef, ⟨⟨Keep.refl _ _, fun b x e => ?_, fun k => ?_, fun k hk => ?_, fun b k q e => ?_, fun b hb => hb, ?_⟩, rfl, by simp; omega, fun s => ?_, fun s k hk => ?_, fun k v e => ?_⟩, fun k hk e => ?_⟩
      · refine ⟨hown b (by rw [e]; exact fun h => nomatch h), .inr ?_⟩
        obtain ⟨k, q⟩ := x
        rcases hrt b k q e with ⟨rfl, rfl⟩ | rfl
        · exact .inr e
        · exact .inl ⟨q, e⟩
      · rw [hHk]
        by_cases e : k = 1
        · subst e; rw [if_pos rfl, if_pos rfl]; exact how
        · rw [if_neg e]; trivial
      · rw [hHk, if_neg (fun e => hk (.inr e))]
      · rcases hrt b k q e with ⟨rfl, _⟩ | rfl
        · exact .inl rfl
        · exact .inr rfl
      · exact ⟨by rw [hHk, if_neg (by omega)], .inl rfl⟩
      · rw [hT0]
        by_cases es : s = 0
        · subst es
          rw [if_pos rfl, hgetv 0 v0 hv0]
          exact hown1
        · rw [if_neg es]
          cases hs : args[s - 1]? with
          | none => trivial
          | some t =>
            obtain ⟨v, h1, h2⟩ := hargs (s - 1) t hs
            rw [show s - 1 + 1 = s by omega] at h1
            rw [hgetv s v h1]
            cases t with
            | one b => exact h2
            | agg l =>
              obtain ⟨cs, rfl, g1, g2⟩ := h2
              refine ⟨cs, rfl, by simpa using g1, fun j s hj => ?_⟩
              simp only [List.getElem?_map, Option.map_eq_some_iff] at hj
              obtain ⟨b, hb, rfl⟩ := hj
              obtain ⟨x, f1, f2⟩ := g2 j b hb
              exact ⟨x, f1, f2⟩
      · rw [hT0] at hk
        by_cases es : s = 0
        · rw [if_pos es] at hk
          exact .inr hk.symm
        · exfalso
          rw [if_neg es] at hk
          split at hk
          · rename_i t _
            cases t with
            | one b => exact hk
            | agg l =>
              obtain ⟨s, hs, hk⟩ := hk
              simp only [List.mem_map] at hs
              obtain ⟨b, _, rfl⟩ := hs
              exact hk
          · exact hk
      · by_cases e1 : k = 1
        · subst e1
          cases e
          exact ⟨.inr rfl, hown1⟩
        · have e : (if k = 1 then some v0 else none) = some v := e
          rw [if_neg e1] at e; cases e
      · have hk' : 5 ≤ k := hk
        omega
    have hQ : ∀ σ a w', FinK P ⟨[.tmp 0, .tmp t], fun r => r = .tup [.one x, .one (.int .i64 i)], fun T => T 0 = .one (.own 1 [] [0])⟩ σ → SR fn.ntmps w (fun c => ∃ q, own0 c = some (1, q)) (⟨fun b => own0 b = some (0, []), fun k => if k = 1 then some v0 else none, hFr⟩ : Frm) σ a w' →
        (a.defers = [] ∧ ∃ v, (results fn a.tmps).run P w' = .ok v w' ∧ ∃ v', Ending.returned v = .returned v' ∧ GivesM w own0 w' x i v0 v') := by
      rintro σ a w' hfin ⟨A, own, rt, h1, h2⟩
      have q := fin_soundM (own0 := own0) (v0 := v0) h1 (h2 σ.n (Nat.le_refl _)) (fun b => Iff.rfl) (fun b => Iff.rfl) (show (if (1 : Nat) = 1 then some v0 else none) = some v0 from if_pos rfl) hfin
      refine ⟨h1.defers, a.tmps.getD t undef, ?_, _, rfl, q⟩
      have := results_list (P := P) (fn := fn) (a := a) (w := w') (by rw [hres]; intro x hx; simp at hx; subst hx; trivial)
      rw [hres] at this
      exact this
    have := arun_sound (P := P) hmx (Qf := bodyPost P fn (fun e w' => ∃ v, e = .returned v ∧ GivesM w own0 w' x i v0 v)) (fun σ a w' h1 h2 => ⟨hQ σ a w' h1 h2, hQ σ a w' h1 h2⟩) m [.code c] _ _ _ h hstart
    refine wp_mono this (fun e a w' hq => ?_)
    cases e <;> exact hq

end
end Go.AM
/- The framework AM, part 28: functions that only call others with parts of their first argument. -/
namespace Go.AM
open Go
theorem load_one {P : Program} {w : World} {t : TypeId} {b o : Nat} {c : Array Value} {T' : TypeId} {fz : Nat × Nat} (hb : w.heap[b]? = some (.cells c T' fz)) (hs : (tk P t).sz = 1) (ha : (tk P t).agg = false) {x : Value} (hx : c[o]? = some x) :
    (Instr.loadAt t (.pointer (some ⟨b, o, none⟩))).run P w = .ok x w := by
  have hz : (tk P t).sz ≠ 0 := by omega
  have hcell := cell_of (off := o) hb
  rw [hx] at hcell
  simp only [Instr.loadAt, Instr.sureAddr, Sem.run_bind, Sem.run_pure, Result.andThen_ok, loadVar, run_isAgg hz, ha, Bool.false_eq_true, if_false, run_load, hcell]

theorem load_agg {P : Program} {w : World} {t : TypeId} {b o : Nat} {c : Array Value} {T' : TypeId} {fz : Nat × Nat} (hb : w.heap[b]? = some (.cells c T' fz)) (hz : (tk P t).sz ≠ 0) (ha : (tk P t).agg = true) (ho : o + (tk P t).sz ≤ c.size) :
    (Instr.loadAt t (.pointer (some ⟨b, o, none⟩))).run P w = .ok (.agg (c.extract o (o + (tk P t).sz))) w := by
  have hl : (c.extract o (o + (tk P t).sz)).toList.length = (tk P t).sz := by simp; omega
  have h2 : (loadCells ⟨b, o, none⟩ (tk P t).sz).run P w = .ok (c.extract o (o + (tk P t).sz)) w := by
    have := run_loadCells_list (P := P) w ⟨b, o, none⟩ (c.extract o (o + (tk P t).sz)).toList (fun j v hv => by
      have hj : j < (tk P t).sz := by rw [← hl]; exact (List.getElem?_eq_some_iff.1 hv).1
      rw [Addr.add_lit, cell_of hb]
      simp only [Array.getElem?_toList] at hv
      rw [Array.getElem?_extract] at hv
      split at hv
      · exact hv
      · cases hv)
    rw [hl, Array.toArray_toList] at this
    exact this
  simp only [Instr.loadAt, Instr.sureAddr, Sem.run_bind, Sem.run_pure, Result.andThen_ok, loadVar, run_isAgg hz, ha, if_true, run_sizeOf hz, h2]

theorem fieldAt_run {P : Program} {w : World} {t : TypeId} {i b off : Nat} (h1 : i < (tk P t).fs.length) (h2 : (tk P (fldTy P t i)).sz ≠ 0) :
    (Instr.fieldAt t (.pointer (some ⟨b, off, none⟩)) i).run P w = .ok (.pointer (some ⟨b, off + fldOff P t i, none⟩)) w := by
  obtain ⟨fs, f, g1, g2, g3, g4⟩ := tk_fs h1
  simp only [Instr.fieldAt, Sem.run_bind, run_underlying g1, Result.andThen_ok, g2, Instr.sureAddr, Sem.run_pure, fieldPlace, g4, run_sizeOf h2, h2, if_false, Sem.run_ite]
  simp [g3, Addr.add_lit]

/-- Where such a function stands. -/
structure WInv (cs : Array Value) (N bx : Nat) (T : TypeId) (k : Value) (a : Act) (w : World) : Prop where
  defers : a.defers = []
  size : a.tmps.size = N
  k1 : a.tmps.getD 1 undef = k
  k2 : a.tmps.getD 2 undef = .pointer (some ⟨bx, 0, none⟩)
  blk : w.heap[bx]? = some (.cells cs T (0, 0))

section
variable {P : Program} {Qn : Exit → Act → World → Prop} {cs : Array Value} {N bx : Nat} {T : TypeId} {k : Value} {a : Act} {w : World}

theorem wp_value {o : Oper} {v : Value} {w' : World} {next : Act → World → Prop} {Q : Exit → Act → World → Prop} (hr : (execOp a.eval o).run P w = .ok (.value v) w') (h : next (a.put o.dst v) w') : o.wp P a w next Q := by
  unfold Oper.wp
  rw [hr, Oper.upon_value]
  exact h

theorem wl_cons {all : Array Oper} {r : List Oper} {o : Oper} {Q : Exit → Act → World → Prop} (hg : o.guard = none) (h : o.wp P a w (wpList P all Q r) Q) : wpList P all Q (o :: r) a w := by
  have hw : Region.wanted o (yielded all a.tmps) = true := by unfold Region.wanted; rw [hg]
  simp only [wpList, hw, if_true]
  exact .inl h

/-- A part's region: the field's address, the field, the number, the call, the number's new value. -/
theorem wrap_part {id : Nat} {fi d1 d2 d3 d4 : Nat} {Tf : TypeId} {g : FuncId} {at_ : Array TypeId} {t1 t2 t3 t4 t5 : TypeId} {p1 p2 p3 p4 p5 : String} {a1 a2 a3 a4 a5 : Array Edge} {v : Value} (hi : WInv cs N bx T k a w)
    (hd : (1 < N ∧ d1 < N ∧ d2 < N ∧ d3 < N ∧ d4 < N) ∧ (3 ≤ d1 ∧ d1 < d2 ∧ d2 < d3 ∧ d3 < d4)) (h1 : fi < (tk P T).fs.length) (h2 : (tk P (fldTy P T fi)).sz ≠ 0) (hv : (Instr.loadAt Tf (.pointer (some ⟨bx, fldOff P T fi, none⟩))).run P w = .ok v w)
    (hent : (callFunc g #[v, k]).run P w = .ok (.enter g #[v, k]) w)
    (hc : Calls P g #[v, k] w fun e w' => ∃ k', e = .returned k' ∧ w'.heap[bx]? = w.heap[bx]? ∧ ∀ a', WInv cs N bx T k' a' w' → Qn .normal a' w') :
    (Code.region id #[{ dst := some d1, op := .fieldAddr T (.tmp 2) fi, type := t1, pos := p1, after := a1, guard := none }, { dst := some d2, op := .load Tf (.tmp d1), type := t2, pos := p2, after := a2, guard := none }, { dst := some d3, op := .move (.tmp 1), type := t3, pos := p3, after := a3, guard := none },
      { dst := some d4, op := .call { callee := .value (.func g), args := #[.tmp d2, .tmp d3], argTypes := at_ }, type := t4, pos := p4, after := a4, guard := none }, { dst := some 1, op := .assign (.tmp d4), type := t5, pos := p5, after := a5, guard := none }] false).wp P Qn a w := by
  obtain ⟨⟨hN1, hN2, hN3, hN4, hN5⟩, hd1, hd2, hd3, hd4⟩ := hd
  obtain ⟨q1, q2, q3, q4, q5⟩ := hi
  refine wp_region_list (wl_cons rfl (wp_value (v := .pointer (some ⟨bx, fldOff P T fi, none⟩)) (w' := w) ?_ ?_))
  · have e : a.eval (.tmp 2) = .pointer (some ⟨bx, 0, none⟩) := q4
    simp only [execOp, e, fieldAt_run h1 h2, Sem.run_bind, Result.andThen_ok, Nat.zero_add]
    rfl
  refine wl_cons rfl (wp_value (v := v) (w' := w) ?_ ?_)
  · have e : (a.put (some d1) (.pointer (some ⟨bx, fldOff P T fi, none⟩))).eval (.tmp d1) = .pointer (some ⟨bx, fldOff P T fi, none⟩) := by
      show (a.put (some d1) _).tmps.getD d1 undef = _
      rw [put_getD (by omega), if_pos rfl]
    simp only [execOp, e, hv, Sem.run_bind, Result.andThen_ok]
    rfl
  refine wl_cons rfl (wp_value (v := k) (w' := w) ?_ ?_)
  · have e : ((a.put (some d1) (.pointer (some ⟨bx, fldOff P T fi, none⟩))).put (some d2) v).eval (.tmp 1) = k := by
      show ((a.put (some d1) _).put (some d2) v).tmps.getD 1 undef = _
      rw [put_getD (by rw [put_size]; omega), if_neg (by omega), put_getD (by omega), if_neg (by omega)]
      exact q3
    simp only [execOp, e]
    rfl
  refine wl_cons rfl ?_
  unfold Oper.wp
  have e2 : (((a.put (some d1) (.pointer (some ⟨bx, fldOff P T fi, none⟩))).put (some d2) v).put (some d3) k).eval (.tmp d2) = v := by
    show (((a.put (some d1) _).put (some d2) v).put (some d3) k).tmps.getD d2 undef = _
    rw [put_getD (by rw [put_size, put_size]; omega), if_neg (by omega), put_getD (by rw [put_size]; omega), if_pos rfl]
  have e3 : (((a.put (some d1) (.pointer (some ⟨bx, fldOff P T fi, none⟩))).put (some d2) v).put (some d3) k).eval (.tmp d3) = k := by
    show (((a.put (some d1) _).put (some d2) v).put (some d3) k).tmps.getD d3 undef = _
    rw [put_getD (by rw [put_size, put_size]; omega), if_pos rfl]
  have hrun : (execOp (((a.put (some d1) (.pointer (some ⟨bx, fldOff P T fi, none⟩))).put (some d2) v).put (some d3) k).eval { dst := some d4, op := .call { callee := .value (.func g), args := #[.tmp d2, .tmp d3], argTypes := at_ }, type := t4, pos := p4, after := a4, guard := none }).run P w = .ok (.enter g #[v, k]) w := by
    have e4 : (((a.put (some d1) (.pointer (some ⟨bx, fldOff P T fi, none⟩))).put (some d2) v).put (some d3) k).eval (.func g) = .func (.func g) #[] #[] := rfl
    simp [execOp, resolve, e2, e3, e4, Deferred.ofValue, invoke, hent]
  dsimp only at hrun ⊢
  rw [hrun, Oper.upon_enter]
  refine Calls.mono hc (fun e w' he => ?_)
  obtain ⟨k', rfl, hb, hn⟩ := he
  refine wl_cons rfl (wp_value (v := k') (w' := w') ?_ ?_)
  · have e5 : ((((a.put (some d1) (.pointer (some ⟨bx, fldOff P T fi, none⟩))).put (some d2) v).put (some d3) k).put (some d4) k').eval (.tmp d4) = k' := by
      show ((((a.put (some d1) _).put (some d2) v).put (some d3) k).put (some d4) k').tmps.getD d4 undef = _
      rw [put_getD (by rw [put_size, put_size, put_size]; omega), if_pos rfl]
    simp only [execOp]
    rw [e5]
    rfl
  · refine hn _ ⟨by simp only [put_defers]; exact q1, by simp only [put_size]; exact q2, ?_, ?_, by rw [hb]; exact q5⟩
    · rw [put_getD (by rw [put_size, put_size, put_size, put_size]; omega), if_pos rfl]
    · rw [put_getD (by rw [put_size, put_size, put_size, put_size]; omega), if_neg (by omega), put_getD (by rw [put_size, put_size, put_size]; omega), if_neg (by omega), put_getD (by rw [put_size, put_size]; omega), if_neg (by omega), put_getD (by rw [put_size]; omega), if_neg (by omega), put_getD (by omega), if_neg (by omega)]
      exact q4

/-- The first region: the struct goes into a box. -/
theorem wrap_box {id : Nat} {t1 t2 : TypeId} {p1 p2 : String} {a1 a2 : Array Edge} {c : Value} (h0 : a.defers = []) (hN : a.tmps.size = N) (hN2 : 4 < N) (h1 : a.tmps.getD 0 undef = .agg cs) (h2 : a.tmps.getD 1 undef = k)
    (hn : ∀ a', WInv cs N w.heap.size T k a' (w.alloc (.cells cs T)) → Qn .normal a' (w.alloc (.cells cs T))) :
    (Code.region id #[{ dst := some 2, op := .box T (.tmp 0), type := t1, pos := p1, after := a1, guard := none }, { dst := some 4, op := .assign (.const c), type := t2, pos := p2, after := a2, guard := none }] false).wp P Qn a w := by
  refine wp_region_list (wl_cons rfl (wp_value (v := .pointer (some ⟨w.heap.size, 0, none⟩)) (w' := w.alloc (.cells cs T)) ?_ ?_))
  · have e : a.eval (.tmp 0) = .agg cs := h1
    simp [execOp, e, Instr.box, newVar, newRow, Value.cells]
  refine wl_cons rfl (wp_value (v := c) (w' := w.alloc (.cells cs T)) ?_ ?_)
  · simp only [execOp]
    rfl
  · refine hn _ ⟨by simp only [put_defers]; exact h0, by simp only [put_size]; exact hN, ?_, ?_, ?_⟩
    · rw [put_getD (by rw [put_size]; omega), if_neg (by omega), put_getD (by omega), if_neg (by omega)]; exact h2
    · rw [put_getD (by rw [put_size]; omega), if_neg (by omega), put_getD (by omega), if_pos rfl]
    · show (w.heap.push (.cells cs T))[w.heap.size]? = _
      simp

/-- The last region. -/
theorem wrap_last {id : Nat} {d : Nat} {t1 t2 : TypeId} {p1 p2 : String} {a1 a2 : Array Edge} (hi : WInv cs N bx T k a w) (hd : 4 < d ∧ d < N) (hn : ∀ a', a'.defers = [] → a'.tmps.getD 4 undef = k → Qn .normal a' w) :
    (Code.region id #[{ dst := some d, op := .move (.tmp 1), type := t1, pos := p1, after := a1, guard := none }, { dst := some 4, op := .assign (.tmp d), type := t2, pos := p2, after := a2, guard := none }] false).wp P Qn a w := by
  obtain ⟨q1, q2, q3, q4, q5⟩ := hi
  refine wp_region_list (wl_cons rfl (wp_value (v := k) (w' := w) ?_ ?_))
  · have e : a.eval (.tmp 1) = k := q3
    simp only [execOp, e]
    rfl
  refine wl_cons rfl (wp_value (v := k) (w' := w) ?_ ?_)
  · have e : (a.put (some d) k).eval (.tmp d) = k := by
      show (a.put (some d) k).tmps.getD d undef = _
      rw [put_getD (by omega), if_pos rfl]
    simp only [execOp, e]
    rfl
  · refine hn _ (by simp only [put_defers]; exact q1) ?_
    rw [put_getD (by rw [put_size]; omega), if_pos rfl]

/-! ### The chain of the parts -/

theorem Keep.trans0 {w w1 w2 : World} (h : Keep w (fun _ => False) w1) (h2 : Keep w1 (fun _ => False) w2) : Keep w (fun _ => False) w2 :=
  ⟨h2.os.trans h.os, h2.tape.trans h.tape, h2.output.trans h.output, Nat.le_trans h.size h2.size, fun b hb e => by
    rw [h2.block b (Nat.lt_of_lt_of_le hb h.size) e]; exact h.block b hb e⟩
theorem keep_alloc (w : World) (o : Obj) : Keep w (fun _ => False) (w.alloc o) :=
  ⟨rfl, rfl, rfl, by show w.heap.size ≤ (w.heap.push o).size; simp, fun b hb _ => by
    show (w.heap.push o)[b]? = _
    rw [Array.getElem?_push, if_neg (by omega)]⟩

/-- What is left of a chain, seen by the function whose box is block bx. -/
structure WCh (P : Program) (cs : Array Value) (B : Nat → Prop) (w0 : World) (bx : Nat) (Q : Value → World → Prop) (parts : List (FuncId × Nat)) (k : Value) (w : World) : Prop where
  size : w0.heap.size ≤ w.heap.size
  keep : ∀ b, B b → w.heap[b]? = w0.heap[b]?
  inn : ∀ b, B b ∨ b = bx → b < w.heap.size
  go : ∃ B' wp, Keep wp (fun _ => False) w ∧ (∀ b, B b ∨ b = bx → B' b ∨ (wp.heap.size ≤ b ∧ b < w.heap.size)) ∧ Chain P cs parts B' k wp Q

variable {B : Nat → Prop} {w0 : World} {Q : Value → World → Prop} {parts : List (FuncId × Nat)}

theorem WCh.start (hch : Chain P cs parts B k w Q) (hB : ∀ b, B b → b < w.heap.size) : WCh P cs B w w.heap.size Q parts k (w.alloc (.cells cs T)) := by
  have hs : (w.alloc (.cells cs T)).heap.size = w.heap.size + 1 := by show (w.heap.push _).size = _; simp
  have hk := keep_alloc w (.cells cs T)
  refine ⟨hk.size, fun b hb => hk.block b (hB b hb) (fun h => h), fun b hb => ?_, B, w, hk, fun b hb => ?_, hch⟩
  · rcases hb with hb | rfl
    · have := hB b hb; omega
    · omega
  · rcases hb with hb | rfl
    · exact .inl hb
    · exact .inr ⟨Nat.le_refl _, by omega⟩

theorem WCh.done (h : WCh P cs B w0 bx Q [] k w) : Q k w :=
  let ⟨_, _, h1, _, h3⟩ := h.go
  h3 w h1

theorem WCh.part {g : FuncId} {c : Nat} {r : List (FuncId × Nat)} {v : Value} (h : WCh P cs B w0 bx Q ((g, c) :: r) k w) (hv : cs[c]? = some v) :
    Calls P g #[v, k] w fun e w' => ∃ k', e = .returned k' ∧ w'.heap[bx]? = w.heap[bx]? ∧ WCh P cs B w0 bx Q r k' w' := by
  obtain ⟨B', wp, h1, h2, h3⟩ := h.go
  refine Calls.mono (h3 w h1 v hv) (fun e w' he => ?_)
  obtain ⟨k', rfl, hs, hk, hc⟩ := he
  refine ⟨k', rfl, hk bx (h2 bx (.inr rfl)), Nat.le_trans h.size hs, fun b hb => by rw [hk b (h2 b (.inl hb))]; exact h.keep b hb, fun b hb => Nat.lt_of_lt_of_le (h.inn b hb) hs, _, w', Keep.refl _ _, fun b hb => .inl (h2 b hb), hc⟩

theorem chain_mono {cs' : Array Value} {Q1 Q2 : Value → World → Prop} : ∀ (parts : List (FuncId × Nat)) {B1 : Nat → Prop} {k : Value} {w : World}, (∀ v w', Q1 v w' → Q2 v w') → Chain P cs' parts B1 k w Q1 → Chain P cs' parts B1 k w Q2
  | [], B1, k, w, hq, h => fun w1 hk => hq _ _ (h w1 hk)
  | (g, c) :: parts, B1, k, w, hq, h => fun w1 hk v hv => Calls.mono (h w1 hk v hv) (fun e w' he => by
    obtain ⟨k', rfl, hs, hk', hc⟩ := he
    exact ⟨k', rfl, hs, hk', chain_mono parts hq hc⟩)

theorem chain_split {cs' : Array Value} {o : Nat} {r : List (FuncId × Nat)} (hcs : ∀ c v, cs'[c]? = some v → cs[o + c]? = some v) : ∀ (parts : List (FuncId × Nat)) (B1 B' : Nat → Prop) (k : Value) (wp w : World), Keep wp (fun _ => False) w →
    (∀ b, B1 b → B' b ∨ (wp.heap.size ≤ b ∧ b < w.heap.size)) → (∀ b, B1 b → b < w.heap.size) → Chain P cs (parts.map (fun p => (p.1, o + p.2)) ++ r) B' k wp Q →
    Chain P cs' parts B1 k w fun v w' => ∃ B2 wp2, Keep wp2 (fun _ => False) w' ∧ (∀ b, B1 b → B2 b ∨ (wp2.heap.size ≤ b ∧ b < w'.heap.size)) ∧ Chain P cs r B2 v wp2 Q
  | [], B1, B', k, wp, w, hk, hB, hl, hc => fun w1 hk1 => ⟨B', wp, hk.trans0 hk1, fun b hb => by
      rcases hB b hb with e | e
      · exact .inl e
      · exact .inr ⟨e.1, Nat.lt_of_lt_of_le e.2 hk1.size⟩, hc⟩
  | (g, c) :: parts, B1, B', k, wp, w, hk, hB, hl, hc => fun w1 hk1 v hv => by
    refine Calls.mono (hc w1 (hk.trans0 hk1) v (hcs c v hv)) (fun e w' he => ?_)
    obtain ⟨k', rfl, hs, hkp, hc'⟩ := he
    have hB' : ∀ b, B1 b ∨ (w.heap.size ≤ b ∧ b < w1.heap.size) → B' b ∨ (wp.heap.size ≤ b ∧ b < w1.heap.size) := fun b hb => by
      rcases hb with hb | hb
      · rcases hB b hb with e | e
        · exact .inl e
        · exact .inr ⟨e.1, Nat.lt_of_lt_of_le e.2 hk1.size⟩
      · exact .inr ⟨Nat.le_trans hk.size hb.1, hb.2⟩
    refine ⟨k', rfl, hs, fun b hb => hkp b (hB' b hb), ?_⟩
    have := chain_split hcs parts (fun b => B1 b ∨ (w.heap.size ≤ b ∧ b < w1.heap.size)) _ k' w' w' (Keep.refl _ _) (fun b hb => .inl (hB' b hb)) (fun b hb => by
      rcases hb with hb | hb
      · exact Nat.lt_of_lt_of_le (Nat.lt_of_lt_of_le (hl b hb) hk1.size) hs
      · exact Nat.lt_of_lt_of_le hb.2 hs) hc'
    refine chain_mono parts (fun v w' hq => ?_) this
    obtain ⟨B2, wp2, g1, g2, g3⟩ := hq
    exact ⟨B2, wp2, g1, fun b hb => g2 b (.inl hb), g3⟩

theorem WCh.wrap {g : FuncId} {m o : Nat} {r parts' : List (FuncId × Nat)} (h : WCh P cs B w0 bx Q parts k w) (hp : parts = parts'.map (fun p => (p.1, o + p.2)) ++ r) (hw : WrapOf P g m parts') (hm : o + m ≤ cs.size) :
    Calls P g #[.agg (cs.extract o (o + m)), k] w fun e w' => ∃ k', e = .returned k' ∧ w'.heap[bx]? = w.heap[bx]? ∧ WCh P cs B w0 bx Q r k' w' := by
  obtain ⟨B', wp, h1, h2, h3⟩ := h.go
  subst hp
  have hcs : ∀ c v, (cs.extract o (o + m))[c]? = some v → cs[o + c]? = some v := fun c v e => by
    rw [Array.getElem?_extract] at e
    split at e
    · exact e
    · cases e
  refine Calls.mono (hw.calls (fun b => B b ∨ b = bx) _ k w _ (by rw [Array.size_extract]; omega) (chain_split hcs parts' (fun b => B b ∨ b = bx) B' k wp w h1 h2 h.inn h3) h.inn) (fun e w' he => ?_)
  obtain ⟨v, rfl, hs, hk, B2, wp2, g1, g2, g3⟩ := he
  exact ⟨v, rfl, hk bx (.inr rfl), Nat.le_trans h.size hs, fun b hb => by rw [hk b (.inl hb)]; exact h.keep b hb, fun b hb => Nat.lt_of_lt_of_le (h.inn b hb) hs, B2, wp2, g1, g2, g3⟩

theorem enter_of {f : FuncId} {fn : Func} {c : Code} (hf : P.funcs[f]? = some fn) (hb : fn.body = some c) (hname : (fn.name == "runtime.NumGoroutine") = false) (vs : Array Value) (w : World) : (callFunc f vs).run P w = .ok (.enter f vs) w := by
  have hne : ¬ fn.name = "runtime.NumGoroutine" := by intro e; rw [e] at hname; exact absurd hname (by decide)
  simp [callFunc, hf, hb, hne]

/-- The end of the body. -/
theorem wrap_end {fn : Func} (hr : fn.results.toList = [.tmp 4]) (h : WCh P cs B w0 bx Q [] k w) (hd : a.defers = []) (hk : a.tmps.getD 4 undef = k) :
    bodyPost P fn (fun e w' => ∃ v, e = .returned v ∧ w0.heap.size ≤ w'.heap.size ∧ (∀ b, B b → w'.heap[b]? = w0.heap[b]?) ∧ Q v w') .ret a w := by
  refine ⟨hd, k, ?_, k, rfl, h.size, h.keep, h.done⟩
  have := results_list (P := P) (fn := fn) (a := a) (w := w) (by rw [hr]; intro x hx; simp at hx; subst hx; trivial)
  rw [hr] at this
  rw [this]
  show Result.ok (a.tmps.getD 4 undef) w = _
  rw [hk]

theorem tmps_size {x k : Value} {n : Nat} (h : 2 ≤ n) : (#[x, k] ++ Array.replicate (n - (#[x, k] : Array Value).size) undef).size = n := by
  simp; omega
theorem tmps_0 {x k : Value} {n : Nat} : (#[x, k] ++ Array.replicate n undef).getD 0 undef = x := by
  rw [Array.getD_eq_getD_getElem?, Array.getElem?_append_left (by simp)]; rfl
theorem tmps_1 {x k : Value} {n : Nat} : (#[x, k] ++ Array.replicate n undef).getD 1 undef = k := by
  rw [Array.getD_eq_getD_getElem?, Array.getElem?_append_left (by simp)]; rfl

end

/-- A contract's result may be said with less. -/
theorem ACalls.weakR {P : Program} {f : FuncId} {args : List AT} {r r' : RV} (h : ACalls P f args (fun x => x = r)) (hle : RLe r r') : ACalls P f args (fun x => x = r') :=
  ⟨h.enter, fun own0 w vs h1 h2 h3 => (h.calls own0 w vs h1 h2 h3).mono (fun e w' he => by
    obtain ⟨v, x, rfl, rfl, hk, own', g1, g2, g3, g4⟩ := he
    exact ⟨v, r', rfl, rfl, hk, own', g1, g2, g3, RLe.rel hle g4⟩)⟩

end Go.AM
/- The framework AM, part 29: functions that take their first argument over. -/
namespace Go.AM
open Go
section
variable {N : Nat} {w0 : World} {E A : Nat → Prop} {F : Frm} {a : Act} {w w' : World} {own own' : Own} {rt : Rt} {P : Program} {n : Nat} {σ : St}

theorem fin_soundT {t : Tmp} {own0 : Own} {x : AV} (hs : SRf N w0 E F A σ.T σ.H a w own rt) (hn : ¬ A n) (hE : ∀ c, E c ↔ ∃ q, own0 c = some (1, q)) (hF : ∀ c, F.b c ↔ own0 c = some (0, []))
    (hfin : FinK P ⟨[.tmp t], fun r => r = .val (.one x), fun _ => True⟩ σ) :
    GivesT w0 own0 w x (a.tmps.getD t undef) := by
  obtain ⟨_, hok, r, hle, rfl⟩ := hfin
  have hH := hs.dead n hn
  have n0 := not_zero hs.toWRf hn
  have hgot := fun x hx => resOk_got (P := P) hs (resSto_ok hok x hx)
  obtain ⟨own1, H1, g1, g2, g3⟩ := gatherR (a := a) (n := n) (.inr rfl) [.tmp t] 0 σ.H own (hs.toWRf.more n) hH (fun x hx => (hgot x hx).2) hok
  have h0' : ∀ b o, own1 b = none → w.heap[b]? = some o → rest own1 n b = none ∧ w.heap[b]? = some o := fun b o e1 e2 => ⟨by simp [rest, e1], e2⟩
  have key : ∀ {b : AV} {c : Nat} {x : Value}, Ow w own1 n b [(0, c)] x → Ow w (rest own1 n) (1 + c) b [] x := fun h =>
    Ow.mono h0' _ _ _ _ (fun b o q e1 e2 => ⟨by simp [rest, e1, n0], e2⟩) h
  have key1 : ∀ {t : AT} {c : Nat} {v : Value}, RelF w own1 n c t v → RelR1 w (rest own1 n) (1 + c) t v := by
    intro t c v h
    cases t with
    | one b => exact key h
    | agg l =>
      obtain ⟨cs, rfl, h1, h2⟩ := h
      exact ⟨cs, rfl, h1, fun j b hj => let ⟨x, f1, f2⟩ := h2 j b hj; ⟨x, f1, by rw [Nat.add_assoc]; exact key f2⟩⟩
  have hR : RelR w (rest own1 n) (rvOf (resSto P σ σ.H [.tmp t]).2) (a.tmps.getD t undef) := key1 g3.1
  have hr := RLe.rel hle hR
  refine ⟨⟨hs.keep.os, hs.keep.tape, hs.keep.output, hs.keep.size, fun b h1 h2 => hs.keep.block b h1 (fun h => h2 ((hE b).1 h))⟩, rest own1 n, fun b y e => ?_, fun b hb e => ?_, fun b e => ?_, fun b k q hb e hk => ?_, hr⟩
  · cases ho : own1 b with
    | none => simp [rest, ho] at e
    | some y => exact (g1.dom b y ho).1
  · cases ho : own1 b with
    | none => simp [rest, ho]
    | some y =>
      rcases (g1.dom b y ho).2 with e' | e' | e'
      · omega
      · obtain ⟨q, e'⟩ := (hE b).1 e'; rw [e] at e'; cases e'
      · have e' := (hF b).1 e'; rw [e] at e'; cases e'
  · have := g1.frn b ((hF b).2 e)
    simp [rest, this]
  · cases ho : own1 b with
    | none => simp [rest, ho] at e
    | some y =>
      rcases (g1.dom b y ho).2 with e' | e' | e'
      · omega
      · exact (hE b).1 e'
      · simp only [rest, g1.frn b e', if_true, Option.some.injEq, Prod.mk.injEq] at e
        exact absurd e.1.symm hk

/-- The contract out of the run of the body. -/
theorem ATake.of_run {f : FuncId} {fn : Func} {c : Code} {b : AV} {args : List AT} {x : AV} {m : Nat} {t : Tmp} (hmx : P.follows .mixedOrders = true) (hf : P.funcs[f]? = some fn) (hb : fn.body = some c) (hname : (fn.name == "runtime.NumGoroutine") = false) (hlen : args.length + 1 ≤ fn.ntmps) (hres : fn.results.toList = [.tmp t])
    (h : arun P fn.ntmps ⟨[.tmp t], fun r => r = .val (.one x), fun _ => True⟩ m [.code c] ⟨(0, .one (.own 1 [] [0])) :: startT 1 args, [(1, ⟨b, []⟩)], 5⟩) : ATake P f b args x := by
  refine ⟨fun vs w => ?_, fun own0 w vs v0 hown hrt hvs hv0 how hargs => ?_⟩
  · have hne : ¬ fn.name = "runtime.NumGoroutine" := by intro e; rw [e] at hname; exact absurd hname (by decide)
    simp [callFunc, hf, hb, hne]
  · refine calls_of_wp hf hb ?_
    have hFr : ∀ k, (if k = 1 then some v0 else none) ≠ none → 0 < k ∧ k ≤ 4 := by
      intro k hk
      by_cases e : k = 1
      · omega
      · rw [if_neg e] at hk; exact absurd rfl hk
    have hstart : SR fn.ntmps w (fun c => ∃ q, own0 c = some (1, q)) (⟨fun b => own0 b = some (0, []), fun k => if k = 1 then some v0 else none, hFr⟩ : Frm) ⟨(0, .one (.own 1 [] [0])) :: startT 1 args, [(1, ⟨b, []⟩)], 5⟩ { tmps := vs ++ Array.replicate (fn.ntmps - vs.size) undef, defers := [] } w := by
      have hHk : ∀ k, (St.H ⟨(0, .one (.own 1 [] [0])) :: startT 1 args, [(1, ⟨b, []⟩)], 5⟩) k = if k = 1 then ⟨b, []⟩ else .dead := by
        intro k
        show lk OB.dead [(1, ⟨b, []⟩)] k = _
        simp only [lk]
        by_cases e : k = 1
        · subst e; rfl
        · rw [if_neg e, if_neg (fun h => e h.symm)]
      have hT0 : ∀ s, (St.T ⟨(0, .one (.own 1 [] [0])) :: startT 1 args, [(1, ⟨b, []⟩)], 5⟩) s = if s = 0 then .one (.own 1 [] [0]) else (match args[s - 1]? with | some t => t.tv | none => .junk) := by
        intro s
        show lk TV.junk ((0, TV.one (.own 1 [] [0])) :: startT 1 args) s = _
        simp only [lk]
        by_cases e : s = 0
        · subst e; rfl
        · rw [if_neg e, if_neg (fun h => e h.symm), lk_startT, if_pos (by omega)]; try rfl
      have hown1 : RelT w own0 (fun k => if k = 1 then v0 else undef) (St.H ⟨(0, .one (.own 1 [] [0])) :: startT 1 args, [(1, ⟨b, []⟩)], 5⟩) (.one (.own 1 [] [0])) v0 := by
        refine ⟨vle_zero [] _, fun hl => ?_⟩
        rw [hdr_nil]; exact congrArg some (if_pos rfl)
      have hgetv : ∀ s v, vs[s]? = some v → (vs ++ Array.replicate (fn.ntmps - vs.size) undef).getD s undef = v := by
        intro s v h1
        have hlt : s < vs.size := (Array.getElem?_eq_some_iff.1 h1).1
        rw [Array.getD_eq_getD_getElem?, Array.getElem?_append_left hlt, h1]; rfl
      refine ⟨fun k => k = 0 ∨ k = 1, own0, fun k => if k = 1 then v0 else undef, ⟨⟨Keep.refl _ _, fun b x e => ?_, fun k => ?_, fun k hk => ?_, fun b k q e => ?_, fun b hb => hb, ?_⟩, rfl, by simp; omega, fun s => ?_, fun s k hk => ?_, fun k v e => ?_⟩, fun k hk e => ?_⟩
      · refine ⟨hown b (by rw [e]; exact fun h => nomatch h), .inr ?_⟩
        obtain ⟨k, q⟩ := x
        rcases hrt b k q e with ⟨rfl, rfl⟩ | rfl
        · exact .inr e
        · exact .inl ⟨q, e⟩
      · rw [hHk]
        by_cases e : k = 1
        · subst e; rw [if_pos rfl, if_pos rfl]; exact how
        · rw [if_neg e]; trivial
      · rw [hHk, if_neg (fun e => hk (.inr e))]
      · rcases hrt b k q e with ⟨rfl, _⟩ | rfl
        · exact .inl rfl
        · exact .inr rfl
      · exact ⟨by rw [hHk, if_neg (by omega)], .inl rfl⟩
      · rw [hT0]
        by_cases es : s = 0
        · subst es
          rw [if_pos rfl, hgetv 0 v0 hv0]
          exact hown1
        · rw [if_neg es]
          cases hs : args[s - 1]? with
          | none => trivial
          | some t =>
            obtain ⟨v, h1, h2⟩ := hargs (s - 1) t hs
            rw [show s - 1 + 1 = s by omega] at h1
            rw [hgetv s v h1]
            cases t with
            | one b => exact h2
            | agg l =>
              obtain ⟨cs, rfl, g1, g2⟩ := h2
              refine ⟨cs, rfl, by simpa using g1, fun j s hj => ?_⟩
              simp only [List.getElem?_map, Option.map_eq_some_iff] at hj
              obtain ⟨b, hb, rfl⟩ := hj
              obtain ⟨x, f1, f2⟩ := g2 j b hb
              exact ⟨x, f1, f2⟩
      · rw [hT0] at hk
        by_cases es : s = 0
        · rw [if_pos es] at hk
          exact .inr hk.symm
        · exfalso
          rw [if_neg es] at hk
          split at hk
          · rename_i t _
            cases t with
            | one b => exact hk
            | agg l =>
              obtain ⟨s, hs, hk⟩ := hk
              simp only [List.mem_map] at hs
              obtain ⟨b, _, rfl⟩ := hs
              exact hk
          · exact hk
      · by_cases e1 : k = 1
        · subst e1
          cases e
          exact ⟨.inr rfl, hown1⟩
        · have e : (if k = 1 then some v0 else none) = some v := e
          rw [if_neg e1] at e; cases e
      · have hk' : 5 ≤ k := hk
        omega
    have hQ : ∀ σ a w', FinK P ⟨[.tmp t], fun r => r = .val (.one x), fun _ => True⟩ σ → SR fn.ntmps w (fun c => ∃ q, own0 c = some (1, q)) (⟨fun b => own0 b = some (0, []), fun k => if k = 1 then some v0 else none, hFr⟩ : Frm) σ a w' →
        (a.defers = [] ∧ ∃ v, (results fn a.tmps).run P w' = .ok v w' ∧ ∃ v', Ending.returned v = .returned v' ∧ GivesT w own0 w' x v') := by
      rintro σ a w' hfin ⟨A, own, rt, h1, h2⟩
      have q := fin_soundT (own0 := own0) h1 (h2 σ.n (Nat.le_refl _)) (fun b => Iff.rfl) (fun b => Iff.rfl) hfin
      refine ⟨h1.defers, a.tmps.getD t undef, ?_, _, rfl, q⟩
      have := results_list (P := P) (fn := fn) (a := a) (w := w') (by rw [hres]; intro x hx; simp at hx; subst hx; trivial)
      rw [hres] at this
      exact this
    have := arun_sound (P := P) hmx (Qf := bodyPost P fn (fun e w' => ∃ v, e = .returned v ∧ GivesT w own0 w' x v)) (fun σ a w' h1 h2 => ⟨hQ σ a w' h1 h2, hQ σ a w' h1 h2⟩) m [.code c] _ _ _ h hstart
    refine wp_mono this (fun e a w' hq => ?_)
    cases e <;> exact hq


end
end Go.AM
