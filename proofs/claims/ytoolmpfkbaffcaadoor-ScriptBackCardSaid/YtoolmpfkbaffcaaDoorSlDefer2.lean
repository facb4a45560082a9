/- A deferred call of a plain function; the way out of a function with results over one deferred call. -/
import Derived.Test.YtoolmpfkbaffcaaDoorSlRow
set_option linter.all false
namespace Go.Sl
theorem doesD_plain {P : Program} {f : FuncId} {fn : Func} {y : Code} {args : List Value} {u : FrameMode} {Pre : List Asrt} {Post : Ending → FrameMode → List Asrt → Prop} {n : Nat}
    (hf : P.funcs[f]? = some fn) (hb : fn.body = some y) (hn : fn.ntmps = n) (hle' : Nat.ble args.length n = true)
    (h : ∀ F w0, CW ⟨P, n, [], w0⟩ y (BP P fn (fun e L => Post e u L) F w0) (envOf 0 args) (Pre ++ [F])) : DoesD P f args.toArray u Pre Post := by
  have hle : args.length ≤ n := Nat.le_of_ble_eq_true hle'
  intro w F hsat
  refine callsD_of_wpS hf hb fun c₀ cs hu => ?_
  have hh0 : Holds ⟨P, n, [], w⟩ (envOf 0 args) (Pre ++ [F]) { tmps := args.toArray ++ Array.replicate (fn.ntmps - args.toArray.size) undef, defers := [] } w := by
    refine ⟨by simp [hn]; omega, ?_, rfl, hsat, Like.refl w⟩
    intro t v ht
    obtain ⟨_, h2⟩ := look_envOf args 0 t v ht
    simp only [Nat.sub_zero] at h2
    have hlt : t < args.length := by
      rcases Nat.lt_or_ge t args.length with h' | h'
      · exact h'
      · rw [List.getElem?_eq_none h'] at h2; cases h2
    rw [Array.getElem?_append_left (by simpa using hlt)]
    simpa using h2
  subst hu
  refine wpS_of_wp (wp_mono (h F w _ w hh0) ?_)
  rintro e a' w' q
  have hc : c₀ :: cs = { c₀ with mode := c₀.mode } :: cs := by cases c₀; rfl
  cases e with
  | normal => obtain ⟨q1, v, q2, q3⟩ := q; exact ⟨q1, _, hc, v, q2, q3⟩
  | ret => obtain ⟨q1, v, q2, q3⟩ := q; exact ⟨q1, _, hc, v, q2, q3⟩
  | panic ch => obtain ⟨q1, q2⟩ := q; exact ⟨q1, _, hc, q2⟩
  | outgrown => exact ⟨_, q⟩
  | exit _ => exact q.elim
  | goto _ => exact q.elim
section
variable {P : Program} {n : Nat} {w0 : World} {Q : Exit → Act → World → Prop} {env : List (Nat × Value)} {L : List Asrt} {fn : Func} {Post : Ending → List Asrt → Prop} {F : Asrt} {f : FuncId} {cap args : List Value}
/-- the way out of a function, over one deferred call that returns -/
theorem kw_leaveDR {e : Exit} (he : e = .normal ∨ e = .ret) (hq : ∀ a w, BPD P fn Post F w0 e a w → Q e a w) {v : Value} (hres : resv fn env = some v) (hb : hasBody P f = true) {Pre M : List Asrt} {X : Type} {p : X → Prop} {N : X → List Asrt}
    (hs : DoesD P f (args ++ cap).toArray .returning Pre (fun e u' L' => ∃ x, p x ∧ (∃ v, e = .returned v) ∧ settle u' = .returning ∧ L' = N x)) (hL : Split L Pre M) (hF : ∀ x, p x → ∃ L' R, Split (N x ++ M) (F :: L') R ∧ Post (.returned v) L') :
    KW ⟨P, n, [{ target := .fn (.func f) cap.toArray, args := args.toArray }], w0⟩ Q e env L := by
  intro a w hh
  have hsat : Sat w (Pre ++ [star M]) := by
    have h1 := hh.sat.perm hL
    have h2 : Sat w (star M :: Pre) := sat_star.2 (h1.perm List.perm_append_comm)
    exact h2.perm (List.perm_append_comm (l₁ := [star M]) (l₂ := Pre))
  have hrun : (invoke (.fn (.func f) cap.toArray) args.toArray).run P w = .ok (.enter f (args ++ cap).toArray) w := by
    simp only [invoke]
    rw [show (args.toArray ++ cap.toArray) = (args ++ cap).toArray by simp]
    exact run_callFunc hb _ w
  have hlv : Leaves P fn a.tmps (fun e w' => ∃ L', Post e L' ∧ Sat w' (L' ++ [F]) ∧ Like w0 w') a.defers .returning w := by
    rw [hh.defers]
    refine ⟨by simp, _, _, f, (args ++ cap).toArray, rfl, hrun, ?_⟩
    intro c₀ cs hc
    obtain ⟨e', u', w', fr, ⟨L1, ⟨x, hx, ⟨v', hv⟩, hset, rfl⟩, hs', hl⟩, hcm⟩ := hs w (star M) hsat c₀ cs hc
    refine ⟨e', u', w', fr, ?_, hcm⟩
    subst hv
    show Leaves P fn a.tmps _ [] (settle u') w'
    rw [hset]
    obtain ⟨L', R, hF', hp⟩ := hF x hx
    have hsat' : Sat w' (N x ++ M) := by
      have h1 : Sat w' (star M :: N x) := hs'.perm (List.perm_append_comm (l₁ := N x) (l₂ := [star M]))
      exact (sat_star.1 h1).perm List.perm_append_comm
    refine ⟨v, ?_, L', hp, ((hsat'.perm hF'.back).perm List.perm_append_comm).drop, hh.like.trans hl⟩
    have hh' : Holds ⟨P, n, [{ target := .fn (.func f) cap.toArray, args := args.toArray }], w'⟩ env [] a w' := ⟨hh.size, hh.slots, hh.defers, Sat.nil w', Like.refl w'⟩
    exact resv_run hh' hres
  refine hq a w ?_
  rcases he with rfl | rfl <;> exact hlv
end
end Go.Sl
