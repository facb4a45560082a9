/- Panics, what is deferred, what recovers. -/
import Derived.Test.YtoolmpfkbaffcaaDoorSlLaw
import Derived.Recover
set_option linter.all false
namespace Go.Sl

section
variable {c : Cx} {ops : Array Oper} {Q : Exit → Act → World → Prop} {rest : List Oper} {env : List (Nat × Value)} {L : List Asrt} {d : Option Tmp} {ty : TypeId} {pos : String} {af : Array Edge} {g : Option (Nat × Bool)}

theorem ow_panic {x : Operand} {t : TypeId} {v : Value} (hx : evo env x = some (.iface t v)) (h : KW c Q (.panic [{ v := .iface t v, recovered := false }]) env L) : OW c ops Q (⟨d, .panic x, ty, pos, af, none⟩ :: rest) env L := by
  intro a w hh
  refine wpList_plain rfl fun K hK => ?_
  unfold Oper.wp
  have hr : (execOp a.eval ⟨d, .panic x, ty, pos, af, none⟩).run c.P w = .halt (.panic (.iface t v)) w := by
    simp [execOp, hh.eval hx, Instr.panic, goPanic]
  rw [hr]
  exact h a w hh

theorem kw_inBlock_panic {ch : List PanicEntry} {id : Nat} (h : KW c Q (.panic ch) env L) : KW c (Exit.inBlock id Q) (.panic ch) env L := h
theorem kw_then_panic {ch : List PanicEntry} {X : Act → World → Prop} (h : KW c Q (.panic ch) env L) : KW c (Exit.then X Q) (.panic ch) env L := h
/-- a call that fails -/
theorem ow_fails {dst : Option Tmp} {fx : Operand} {f : FuncId} {xs : List Operand} {ats : Array TypeId} {first vs cap : List Value} {Pre M N : List Asrt} {ch : List PanicEntry}
    (hf : evo env fx = some (.func (.func f) first.toArray cap.toArray)) (hb : hasBody c.P f = true) (hv : xs.mapM (evo env) = some vs) (hs : Does c.P f (first ++ vs ++ cap).toArray Pre (fun en L => en = .panicked ch ∧ L = N)) (hL : Split L Pre M)
    (h : KW c Q (.panic ch) env (N ++ M)) : OW c ops Q (⟨dst, .call { callee := .value fx, args := xs.toArray, argTypes := ats }, ty, pos, af, none⟩ :: rest) env L :=
  ow_call hf hb hv hs hL (fun u L' hp a w hh => by cases hp.1) (fun ch' L' hp => by obtain ⟨e, rfl⟩ := hp; cases e; exact h) (fun L' hp => by cases hp.1)
def tyIface (P : Program) (t : TypeId) : Bool := match P.underlying t with | some (.interface _) => true | _ => false
theorem y_if_nil {x : Operand} {t yt : TypeId} {v : Value} {b : Bool} (ht : tyIface c.P t = true) (hx : evo env x = some v) (hv : match v with | .nilIface => b = true | .iface _ _ => b = false | _ => False) :
    Yields c ⟨d, .binOp .eql t x (.const .nilIface) yt, ty, pos, af, g⟩ env L (.bool b) := by
  intro a w h
  unfold tyIface at ht
  split at ht
  case h_2 => cases ht
  rename_i ms hu
  cases v with
  | nilIface =>
    subst hv
    have e2 : ∀ k, (Op.equalIn (k + 1) t .nilIface .nilIface).run c.P w = .ok true w := by intro k; simp [Op.equalIn, run_underlying hu]
    have e1 : binOp .eql t .nilIface .nilIface = (do pure (.bool (← Op.equalIn (9999 + 1) t .nilIface .nilIface))) := rfl
    have e3 : (binOp .eql t .nilIface .nilIface).run c.P w = .ok (.bool true) w := by rw [e1, Sem.run_bind, e2]; rfl
    have e4 : (eqGuard .eql t x (.const .nilIface) .nilIface .nilIface).run c.P w = .ok () w := by simp [eqGuard]
    have hc : a.eval (.const .nilIface) = .nilIface := rfl
    simp only [execOp, h.eval hx, hc, Sem.run_bind, e4, Result.andThen_ok, e3, Sem.run_pure]
  | iface u z =>
    subst hv
    have e2 : ∀ k, (Op.equalIn (k + 1) t (.iface u z) .nilIface).run c.P w = .ok false w := by intro k; simp [Op.equalIn, run_underlying hu]
    have e1 : binOp .eql t (.iface u z) .nilIface = (do pure (.bool (← Op.equalIn (9999 + 1) t (.iface u z) .nilIface))) := rfl
    have e3 : (binOp .eql t (.iface u z) .nilIface).run c.P w = .ok (.bool false) w := by rw [e1, Sem.run_bind, e2]; rfl
    have e4 : (eqGuard .eql t x (.const .nilIface) (.iface u z) .nilIface).run c.P w = .ok () w := by simp [eqGuard]
    have hc : a.eval (.const .nilIface) = .nilIface := rfl
    simp only [execOp, h.eval hx, hc, Sem.run_bind, e4, Result.andThen_ok, e3, Sem.run_pure]
  | _ => exact hv.elim
/-- 'x, ok := v.(T)', and it is one -/
theorem y_assert {x : Operand} {xt t : TypeId} {v : Value} (ht : (match c.P.underlying t with | some (.interface _) | none => false | _ => true) = true) (hx : evo env x = some (.iface t v)) :
    Yields c ⟨d, .typeAssert x xt t true, ty, pos, af, g⟩ env L (.tuple #[v, .bool true]) := by
  intro a w h
  cases hd : c.P.underlying t with
  | none => rw [hd] at ht; cases ht
  | some k => cases k <;> first | (rw [hd] at ht; cases ht; done) | simp [execOp, h.eval hx, Instr.typeAssert, run_underlying hd]
end

/-! ### deferred calls -/
def rec1 : FrameMode → Value × FrameMode
  | .panicking ({ v, recovered := false, goexit := false } :: older) => (v, .panicking ({ v, recovered := true } :: older))
  | m => (.nilIface, m)
/-- a deferred call, in this mode -/
def DoesD (P : Program) (f : FuncId) (args : Array Value) (u : FrameMode) (Pre : List Asrt) (Post : Ending → FrameMode → List Asrt → Prop) : Prop :=
  ∀ w (F : Asrt), Sat w (Pre ++ [F]) → CallsD P f args u w fun e u' w' => ∃ L', Post e u' L' ∧ Sat w' (L' ++ [F]) ∧ Like w w'

theorem rec_none {c : Frame} {cs : List Frame} (h : recoverD (c :: cs) = none) : rec1 c.mode = (.nilIface, c.mode) := by
  simp only [recoverD] at h
  unfold rec1
  generalize c.mode = m at h ⊢
  split
  · simp at h
  · rfl
theorem rec_some {c : Frame} {cs cs' : List Frame} {v : Value} (h : recoverD (c :: cs) = some (v, cs')) : (rec1 c.mode).1 = v ∧ cs' = { c with mode := (rec1 c.mode).2 } :: cs := by
  simp only [recoverD] at h
  unfold rec1
  generalize c.mode = m at h ⊢
  split at h
  · simp only [Option.some.injEq, Prod.mk.injEq] at h
    obtain ⟨rfl, rfl⟩ := h
    exact ⟨rfl, rfl⟩
  · cases h
theorem doesD_rec {P : Program} {f : FuncId} {fn : Func} {id : Nat} {y : Code} {d1 d2 : Nat} {t1 t2 : TypeId} {p1 p2 : String} {a1 a2 : Array Edge} {args : List Value} {u : FrameMode} {Pre : List Asrt} {Post : Ending → FrameMode → List Asrt → Prop} {n : Nat}
    (hf : P.funcs[f]? = some fn) (hb : fn.body = some (.seq (.region id #[⟨some d1, .call { callee := .builtin .recover, args := #[], argTypes := #[] }, t1, p1, a1, none⟩, ⟨some d2, .assign (.tmp d1), t2, p2, a2, none⟩] false) y))
    (hn : fn.ntmps = n) (hle' : Nat.ble args.length n = true) (hd1 : Nat.blt d1 n = true) (hd2 : Nat.blt d2 n = true)
    (h : ∀ F w0, CW ⟨P, n, [], w0⟩ y (BP P fn (fun e L => Post e (rec1 u).2 L) F w0) ((d2, (rec1 u).1) :: (d1, (rec1 u).1) :: envOf 0 args) (Pre ++ [F])) : DoesD P f args.toArray u Pre Post := by
  have hle : args.length ≤ n := Nat.le_of_ble_eq_true hle'
  intro w F hsat
  refine callsD_of_wpS hf hb fun c₀ cs hu => ?_
  have hh0 : Holds ⟨P, n, [], w⟩ (envOf 0 args) (Pre ++ [F]) { tmps := args.toArray ++ Array.replicate (fn.ntmps - args.toArray.size) undef, defers := [] } w := by
    refine ⟨by simp [hn]; omega, ?_, rfl, hsat, Like.refl w⟩
    intro t v ht
    obtain ⟨_, h2⟩ := look_envOf args 0 t v ht
    simp only [Nat.sub_zero] at h2
    have hlt : t < args.length := by
      rcases Nat.lt_or_ge t args.length with h' | h'
      · exact h'
      · rw [List.getElem?_eq_none h'] at h2; cases h2
    rw [Array.getElem?_append_left (by simpa using hlt)]
    simpa using h2
  generalize ({ tmps := args.toArray ++ Array.replicate (fn.ntmps - args.toArray.size) undef, defers := [] } : Act) = a at hh0
  refine wpS_seq (wpS_region ?_)
  have key : ∀ (cs' : List Frame), cs' = { c₀ with mode := (rec1 u).2 } :: cs →
      y.wpS P (bodyPostS P fn c₀ cs fun e u' w' => ∃ L', Post e u' L' ∧ Sat w' (L' ++ [F]) ∧ Like w w') ((a.put (some d1) (rec1 u).1).put (some d2) (rec1 u).1) cs' w := by
    rintro cs' rfl
    refine wpS_of_wp (wp_mono (h F w _ w ((hh0.put d1 _ hd1).put d2 _ hd2)) ?_)
    rintro e a' w' q
    cases e with
    | normal => obtain ⟨q1, v, q2, q3⟩ := q; exact ⟨q1, _, rfl, v, q2, q3⟩
    | ret => obtain ⟨q1, v, q2, q3⟩ := q; exact ⟨q1, _, rfl, v, q2, q3⟩
    | panic ch => obtain ⟨q1, q2⟩ := q; exact ⟨q1, _, rfl, q2⟩
    | outgrown => exact ⟨_, q⟩
    | exit _ => exact q.elim
    | goto _ => exact q.elim
  have hrec : ∀ r : Act, (execOp r.eval ⟨some d1, .call { callee := .builtin .recover, args := #[], argTypes := #[] }, t1, p1, a1, none⟩).run P w = .ok .recover w := fun r => by
    simp [execOp, resolve, invoke]
    rfl
  have hasg : ∀ v, (execOp (a.put (some d1) v).eval ⟨some d2, .assign (.tmp d1), t2, p2, a2, none⟩).run P w = .ok (.value v) w := fun v =>
    y_assign (c := ⟨P, n, [], w⟩) (env := (d1, v) :: envOf 0 args) (L := Pre ++ [F]) (by simp [evo, look]) _ _ (hh0.put d1 v hd1)
  subst hu
  have hfin : ∀ (cs' : List Frame), cs' = { c₀ with mode := (rec1 c₀.mode).2 } :: cs → wpOpsS P #[⟨some d1, .call { callee := .builtin .recover, args := #[], argTypes := #[] }, t1, p1, a1, none⟩, ⟨some d2, .assign (.tmp d1), t2, p2, a2, none⟩]
      (Exit.thenS (y.wpS P (bodyPostS P fn c₀ cs fun e u' w' => ∃ L', Post e u' L' ∧ Sat w' (L' ++ [F]) ∧ Like w w')) (bodyPostS P fn c₀ cs fun e u' w' => ∃ L', Post e u' L' ∧ Sat w' (L' ++ [F]) ∧ Like w w')) [1] (a.put (some d1) (rec1 c₀.mode).1) cs' w := by
    intro cs' hcs
    simp only [wpOpsS]
    have hw : Region.wanted ⟨some d2, .assign (.tmp d1), t2, p2, a2, none⟩ (yielded #[⟨some d1, .call { callee := .builtin .recover, args := #[], argTypes := #[] }, t1, p1, a1, none⟩, ⟨some d2, .assign (.tmp d1), t2, p2, a2, none⟩] (a.put (some d1) (rec1 c₀.mode).1).tmps) = true := rfl
    have hq : (#[⟨some d1, .call { callee := .builtin .recover, args := #[], argTypes := #[] }, t1, p1, a1, none⟩, ⟨some d2, .assign (.tmp d1), t2, p2, a2, none⟩] : Array Oper)[1]? = some ⟨some d2, .assign (.tmp d1), t2, p2, a2, none⟩ := rfl
    simp only [hq, hw, if_true, hasg, Oper.upon]
    exact key cs' hcs
  show wpOpsS P _ _ [0, 1] a (c₀ :: cs) w
  rw [wpOpsS]
  have hw : Region.wanted ⟨some d1, .call { callee := .builtin .recover, args := #[], argTypes := #[] }, t1, p1, a1, none⟩ (yielded #[⟨some d1, .call { callee := .builtin .recover, args := #[], argTypes := #[] }, t1, p1, a1, none⟩, ⟨some d2, .assign (.tmp d1), t2, p2, a2, none⟩] a.tmps) = true := rfl
  have hq : (#[⟨some d1, .call { callee := .builtin .recover, args := #[], argTypes := #[] }, t1, p1, a1, none⟩, ⟨some d2, .assign (.tmp d1), t2, p2, a2, none⟩] : Array Oper)[0]? = some ⟨some d1, .call { callee := .builtin .recover, args := #[], argTypes := #[] }, t1, p1, a1, none⟩ := rfl
  simp only [hq, hw, if_true, hrec]
  cases hm : recoverD (c₀ :: cs) with
  | none =>
    have e := rec_none hm
    have := hfin (c₀ :: cs) (by rw [e])
    rw [e] at this
    exact this
  | some r =>
    obtain ⟨v, cs'⟩ := r
    obtain ⟨rfl, e2⟩ := rec_some hm
    exact hfin cs' e2

/-! ### a function that defers -/
def BPD (P : Program) (fn : Func) (Post : Ending → List Asrt → Prop) (F : Asrt) (w0 : World) : Exit → Act → World → Prop :=
  bodyPostD P fn fun e w' => ∃ L', Post e L' ∧ Sat w' (L' ++ [F]) ∧ Like w0 w'
theorem does_enterD {P : Program} {f : FuncId} {fn : Func} {code : Code} {args : List Value} {Pre : List Asrt} {Post : Ending → List Asrt → Prop} {n : Nat}
    (hf : P.funcs[f]? = some fn) (hb : fn.body = some code) (hn : fn.ntmps = n) (hle' : Nat.ble args.length n = true)
    (h : ∀ F w0, CW ⟨P, n, [], w0⟩ code (BPD P fn Post F w0) (envOf 0 args) (Pre ++ [F])) : Does P f args.toArray Pre Post := by
  have hle : args.length ≤ n := Nat.le_of_ble_eq_true hle'
  intro w F hsat
  refine calls_of_wp_defers hf hb (h F w _ w ?_)
  refine ⟨by simp [hn]; omega, ?_, rfl, hsat, Like.refl w⟩
  intro t v ht
  obtain ⟨_, h2⟩ := look_envOf args 0 t v ht
  simp only [Nat.sub_zero] at h2
  have hlt : t < args.length := by
    rcases Nat.lt_or_ge t args.length with h' | h'
    · exact h'
    · rw [List.getElem?_eq_none h'] at h2; cases h2
  rw [Array.getElem?_append_left (by simpa using hlt)]
  simpa using h2

section
variable {P : Program} {n : Nat} {ds : List Deferred} {w0 : World} {ops : Array Oper} {Q : Exit → Act → World → Prop} {rest : List Oper} {env : List (Nat × Value)} {L : List Asrt} {ty : TypeId} {pos : String} {af : Array Edge}
theorem ow_defer {fx : Operand} {f : FuncId} {xs : List Operand} {ats : Array TypeId} {first vs cap : List Value} (hf : evo env fx = some (.func (.func f) first.toArray cap.toArray)) (hv : xs.mapM (evo env) = some vs)
    (h : OW ⟨P, n, { target := .fn (.func f) cap.toArray, args := (first ++ vs).toArray } :: ds, w0⟩ ops Q rest env L) : OW ⟨P, n, ds, w0⟩ ops Q (⟨none, .defer { callee := .value fx, args := xs.toArray, argTypes := ats }, ty, pos, af, none⟩ :: rest) env L := by
  intro a w hh
  refine wpList_plain rfl fun K hK => ?_
  unfold Oper.wp
  have hargs : (xs.toArray.map a.eval) = vs.toArray := by simp [evals hh _ _ hv]
  have hrun : (execOp a.eval ⟨none, .defer { callee := .value fx, args := xs.toArray, argTypes := ats }, ty, pos, af, none⟩).run P w = .ok (.defer { target := .fn (.func f) cap.toArray, args := (first ++ vs).toArray }) w := by
    simp only [execOp, resolve, hargs, hh.eval hf, Deferred.ofValue, Sem.run_bind, Sem.run_pure, Result.andThen_ok]
    simp
  rw [hrun]
  exact hK _ _ (h _ _ ⟨hh.size, hh.slots, by show _ :: a.defers = _; rw [hh.defers], hh.sat, hh.like⟩)

variable {fn : Func} {Post : Ending → List Asrt → Prop} {F : Asrt} {f : FuncId} {cap args : List Value}
/-- the way out of a function without results, over one deferred call that leaves no panic -/
theorem kw_leaveD {e : Exit} {u : FrameMode} (he : (e = .normal ∨ e = .ret) ∧ u = .returning ∨ ∃ ch, e = .panic ch ∧ u = .panicking ch) (hq : ∀ a w, BPD P fn Post F w0 e a w → Q e a w) (hres : fn.results = #[]) (hb : hasBody P f = true) {Pre N M R L' : List Asrt}
    (hs : DoesD P f (args ++ cap).toArray u Pre (fun e u' L' => (∃ v, e = .returned v) ∧ settle u' = .returning ∧ L' = N)) (hL : Split L Pre M) (hF : Split (N ++ M) (F :: L') R) (hp : Post (.returned (.tuple #[])) L') :
    KW ⟨P, n, [{ target := .fn (.func f) cap.toArray, args := args.toArray }], w0⟩ Q e env L := by
  intro a w hh
  have hsat : Sat w (Pre ++ [star M]) := by
    have h1 := hh.sat.perm hL
    have h2 : Sat w (star M :: Pre) := sat_star.2 (h1.perm List.perm_append_comm)
    exact h2.perm (List.perm_append_comm (l₁ := [star M]) (l₂ := Pre))
  have hrun : (invoke (.fn (.func f) cap.toArray) args.toArray).run P w = .ok (.enter f (args ++ cap).toArray) w := by
    simp only [invoke]
    rw [show (args.toArray ++ cap.toArray) = (args ++ cap).toArray by simp]
    exact run_callFunc hb _ w
  have hlv : Leaves P fn a.tmps (fun e w' => ∃ L', Post e L' ∧ Sat w' (L' ++ [F]) ∧ Like w0 w') a.defers u w := by
    rw [hh.defers]
    refine ⟨by rcases he with ⟨_, rfl⟩ | ⟨_, _, rfl⟩ <;> simp, _, _, f, (args ++ cap).toArray, rfl, hrun, ?_⟩
    intro c₀ cs hc
    obtain ⟨e', u', w', fr, ⟨L1, ⟨⟨v, hv⟩, hset, rfl⟩, hs', hl⟩, hcm⟩ := hs w (star M) hsat c₀ cs hc
    refine ⟨e', u', w', fr, ?_, hcm⟩
    subst hv
    show Leaves P fn a.tmps _ [] (settle u') w'
    rw [hset]
    have hsat' : Sat w' (L1 ++ M) := by
      have h1 : Sat w' (star M :: L1) := hs'.perm (List.perm_append_comm (l₁ := L1) (l₂ := [star M]))
      exact (sat_star.1 h1).perm List.perm_append_comm
    refine ⟨.tuple #[], ?_, L', hp, ((hsat'.perm hF.back).perm List.perm_append_comm).drop, hh.like.trans hl⟩
    exact results_none hres _ _ _
  refine hq a w ?_
  rcases he with ⟨rfl | rfl, rfl⟩ | ⟨ch, rfl, rfl⟩ <;> exact hlv
end
end Go.Sl
