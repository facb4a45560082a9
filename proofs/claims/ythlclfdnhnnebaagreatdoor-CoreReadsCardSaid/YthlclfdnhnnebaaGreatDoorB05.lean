/- Part of the proof; no statement of its own: SlDefer, SlEq, Model, SlRun. -/
import Derived.Test.YthlclfdnhnnebaaGreatDoorB04
import Derived.Recover
import Derived.Laws.StructEq
set_option linter.all false
section
namespace Go.Sl
section
variable {c : Cx} {ops : Array Oper} {Q : Exit → Act → World → Prop} {rest : List Oper} {env : List (Nat × Value)} {L : List Asrt} {d : Option Tmp} {ty : TypeId} {pos : String} {af : Array Edge} {g : Option (Nat × Bool)}
theorem ow_panic {x : Operand} {t : TypeId} {v : Value} (hx : evo env x = some (.iface t v)) (h : KW c Q (.panic [{ v := .iface t v, recovered := false }]) env L) : OW c ops Q (⟨d, .panic x, ty, pos, af, none⟩ :: rest) env L := by
  intro a w hh
  refine wpList_plain rfl fun K hK => ?_
  unfold Oper.wp
  have hr : (execOp a.eval ⟨d, .panic x, ty, pos, af, none⟩).run c.P w = .halt (.panic (.iface t v)) w := by
    simp [execOp, hh.eval hx, Instr.panic, goPanic]
  rw [hr]
  exact h a w hh
theorem kw_inBlock_panic {ch : List PanicEntry} {id : Nat} (h : KW c Q (.panic ch) env L) : KW c (Exit.inBlock id Q) (.panic ch) env L := h
theorem kw_then_panic {ch : List PanicEntry} {X : Act → World → Prop} (h : KW c Q (.panic ch) env L) : KW c (Exit.then X Q) (.panic ch) env L := h
theorem ow_fails {dst : Option Tmp} {fx : Operand} {f : FuncId} {xs : List Operand} {ats : Array TypeId} {first vs cap : List Value} {Pre M N : List Asrt} {ch : List PanicEntry}
    (hf : evo env fx = some (.func (.func f) first.toArray cap.toArray)) (hb : hasBody c.P f = true) (hv : xs.mapM (evo env) = some vs) (hs : Does c.P f (first ++ vs ++ cap).toArray Pre (fun en L => en = .panicked ch ∧ L = N)) (hL : Split L Pre M)
    (h : KW c Q (.panic ch) env (N ++ M)) : OW c ops Q (⟨dst, .call { callee := .value fx, args := xs.toArray, argTypes := ats }, ty, pos, af, none⟩ :: rest) env L :=
  ow_call hf hb hv hs hL (fun u L' hp a w hh => by cases hp.1) (fun ch' L' hp => by obtain ⟨e, rfl⟩ := hp; cases e; exact h) (fun L' hp => by cases hp.1)
def tyIface (P : Program) (t : TypeId) : Bool := match P.underlying t with | some (.interface _) => true | _ => false
theorem y_if_nil {x : Operand} {t yt : TypeId} {v : Value} {b : Bool} (ht : tyIface c.P t = true) (hx : evo env x = some v) (hv : match v with | .nilIface => b = true | .iface _ _ => b = false | _ => False) :
    Yields c ⟨d, .binOp .eql t x (.const .nilIface) yt, ty, pos, af, g⟩ env L (.bool b) := by
  intro a w h
  unfold tyIface at ht
  split at ht
  case h_2 => cases ht
  rename_i ms hu
  cases v with
  | nilIface =>
    subst hv
    have e2 : ∀ k, (Op.equalIn (k + 1) t .nilIface .nilIface).run c.P w = .ok true w := by intro k; simp [Op.equalIn, run_underlying hu]
    have e1 : binOp .eql t .nilIface .nilIface = (do pure (.bool (← Op.equalIn (9999 + 1) t .nilIface .nilIface))) := rfl
    have e3 : (binOp .eql t .nilIface .nilIface).run c.P w = .ok (.bool true) w := by rw [e1, Sem.run_bind, e2]; rfl
    have e4 : (eqGuard .eql t x (.const .nilIface) .nilIface .nilIface).run c.P w = .ok () w := by simp [eqGuard]
    have hc : a.eval (.const .nilIface) = .nilIface := rfl
    simp only [execOp, h.eval hx, hc, Sem.run_bind, e4, Result.andThen_ok, e3, Sem.run_pure]
  | iface u z =>
    subst hv
    have e2 : ∀ k, (Op.equalIn (k + 1) t (.iface u z) .nilIface).run c.P w = .ok false w := by intro k; simp [Op.equalIn, run_underlying hu]
    have e1 : binOp .eql t (.iface u z) .nilIface = (do pure (.bool (← Op.equalIn (9999 + 1) t (.iface u z) .nilIface))) := rfl
    have e3 : (binOp .eql t (.iface u z) .nilIface).run c.P w = .ok (.bool false) w := by rw [e1, Sem.run_bind, e2]; rfl
    have e4 : (eqGuard .eql t x (.const .nilIface) (.iface u z) .nilIface).run c.P w = .ok () w := by simp [eqGuard]
    have hc : a.eval (.const .nilIface) = .nilIface := rfl
    simp only [execOp, h.eval hx, hc, Sem.run_bind, e4, Result.andThen_ok, e3, Sem.run_pure]
  | _ => exact hv.elim
theorem y_assert {x : Operand} {xt t : TypeId} {v : Value} (ht : (match c.P.underlying t with | some (.interface _) | none => false | _ => true) = true) (hx : evo env x = some (.iface t v)) :
    Yields c ⟨d, .typeAssert x xt t true, ty, pos, af, g⟩ env L (.tuple #[v, .bool true]) := by
  intro a w h
  cases hd : c.P.underlying t with
  | none => rw [hd] at ht; cases ht
  | some k => cases k <;> first | (rw [hd] at ht; cases ht; done) | simp [execOp, h.eval hx, Instr.typeAssert, run_underlying hd]
end
def rec1 : FrameMode → Value × FrameMode
  | .panicking ({ v, recovered := false, goexit := false } :: older) => (v, .panicking ({ v, recovered := true } :: older))
  | m => (.nilIface, m)
def DoesD (P : Program) (f : FuncId) (args : Array Value) (u : FrameMode) (Pre : List Asrt) (Post : Ending → FrameMode → List Asrt → Prop) : Prop :=
  ∀ w (F : Asrt), Sat w (Pre ++ [F]) → CallsD P f args u w fun e u' w' => ∃ L', Post e u' L' ∧ Sat w' (L' ++ [F]) ∧ Like w w'
theorem rec_none {c : Frame} {cs : List Frame} (h : recoverD (c :: cs) = none) : rec1 c.mode = (.nilIface, c.mode) := by
  simp only [recoverD] at h
  unfold rec1
  generalize c.mode = m at h ⊢
  split
  · simp at h
  · rfl
theorem rec_some {c : Frame} {cs cs' : List Frame} {v : Value} (h : recoverD (c :: cs) = some (v, cs')) : (rec1 c.mode).1 = v ∧ cs' = { c with mode := (rec1 c.mode).2 } :: cs := by
  simp only [recoverD] at h
  unfold rec1
  generalize c.mode = m at h ⊢
  split at h
  · simp only [Option.some.injEq, Prod.mk.injEq] at h
    obtain ⟨rfl, rfl⟩ := h
    exact ⟨rfl, rfl⟩
  · cases h
theorem doesD_rec {P : Program} {f : FuncId} {fn : Func} {id : Nat} {y : Code} {d1 d2 : Nat} {t1 t2 : TypeId} {p1 p2 : String} {a1 a2 : Array Edge} {args : List Value} {u : FrameMode} {Pre : List Asrt} {Post : Ending → FrameMode → List Asrt → Prop} {n : Nat}
    (hf : P.funcs[f]? = some fn) (hb : fn.body = some (.seq (.region id #[⟨some d1, .call { callee := .builtin .recover, args := #[], argTypes := #[] }, t1, p1, a1, none⟩, ⟨some d2, .assign (.tmp d1), t2, p2, a2, none⟩] false) y))
    (hn : fn.ntmps = n) (hle' : Nat.ble args.length n = true) (hd1 : Nat.blt d1 n = true) (hd2 : Nat.blt d2 n = true)
    (h : ∀ F w0, CW ⟨P, n, [], w0⟩ y (BP P fn (fun e L => Post e (rec1 u).2 L) F w0) ((d2, (rec1 u).1) :: (d1, (rec1 u).1) :: envOf 0 args) (Pre ++ [F])) : DoesD P f args.toArray u Pre Post := by
  have hle : args.length ≤ n := Nat.le_of_ble_eq_true hle'
  intro w F hsat
  refine callsD_of_wpS hf hb fun c₀ cs hu => ?_
  have hh0 : Holds ⟨P, n, [], w⟩ (envOf 0 args) (Pre ++ [F]) { tmps := args.toArray ++ Array.replicate (fn.ntmps - args.toArray.size) undef, defers := [] } w := by
    refine ⟨by simp [hn]; omega, ?_, rfl, hsat, Like.refl w⟩
    intro t v ht
    obtain ⟨_, h2⟩ := look_envOf args 0 t v ht
    simp only [Nat.sub_zero] at h2
    have hlt : t < args.length := by
      rcases Nat.lt_or_ge t args.length with h' | h'
      · exact h'
      · rw [List.getElem?_eq_none h'] at h2; cases h2
    rw [Array.getElem?_append_left (by simpa using hlt)]
    simpa using h2
  generalize ({ tmps := args.toArray ++ Array.replicate (fn.ntmps - args.toArray.size) undef, defers := [] } : Act) = a at hh0
  refine wpS_seq (wpS_region ?_)
  have key : ∀ (cs' : List Frame), cs' = { c₀ with mode := (rec1 u).2 } :: cs →
      y.wpS P (bodyPostS P fn c₀ cs fun e u' w' => ∃ L', Post e u' L' ∧ Sat w' (L' ++ [F]) ∧ Like w w') ((a.put (some d1) (rec1 u).1).put (some d2) (rec1 u).1) cs' w := by
    rintro cs' rfl
    refine wpS_of_wp (wp_mono (h F w _ w ((hh0.put d1 _ hd1).put d2 _ hd2)) ?_)
    rintro e a' w' q
    cases e with
    | normal => obtain ⟨q1, v, q2, q3⟩ := q; exact ⟨q1, _, rfl, v, q2, q3⟩
    | ret => obtain ⟨q1, v, q2, q3⟩ := q; exact ⟨q1, _, rfl, v, q2, q3⟩
    | panic ch => obtain ⟨q1, q2⟩ := q; exact ⟨q1, _, rfl, q2⟩
    | outgrown => exact ⟨_, q⟩
    | exit _ => exact q.elim
    | goto _ => exact q.elim
  have hrec : ∀ r : Act, (execOp r.eval ⟨some d1, .call { callee := .builtin .recover, args := #[], argTypes := #[] }, t1, p1, a1, none⟩).run P w = .ok .recover w := fun r => by
    simp [execOp, resolve, invoke]
    rfl
  have hasg : ∀ v, (execOp (a.put (some d1) v).eval ⟨some d2, .assign (.tmp d1), t2, p2, a2, none⟩).run P w = .ok (.value v) w := fun v =>
    y_assign (c := ⟨P, n, [], w⟩) (env := (d1, v) :: envOf 0 args) (L := Pre ++ [F]) (by simp [evo, look]) _ _ (hh0.put d1 v hd1)
  subst hu
  have hfin : ∀ (cs' : List Frame), cs' = { c₀ with mode := (rec1 c₀.mode).2 } :: cs → wpOpsS P #[⟨some d1, .call { callee := .builtin .recover, args := #[], argTypes := #[] }, t1, p1, a1, none⟩, ⟨some d2, .assign (.tmp d1), t2, p2, a2, none⟩]
      (Exit.thenS (y.wpS P (bodyPostS P fn c₀ cs fun e u' w' => ∃ L', Post e u' L' ∧ Sat w' (L' ++ [F]) ∧ Like w w')) (bodyPostS P fn c₀ cs fun e u' w' => ∃ L', Post e u' L' ∧ Sat w' (L' ++ [F]) ∧ Like w w')) [1] (a.put (some d1) (rec1 c₀.mode).1) cs' w := by
    intro cs' hcs
    simp only [wpOpsS]
    have hw : Region.wanted ⟨some d2, .assign (.tmp d1), t2, p2, a2, none⟩ (yielded #[⟨some d1, .call { callee := .builtin .recover, args := #[], argTypes := #[] }, t1, p1, a1, none⟩, ⟨some d2, .assign (.tmp d1), t2, p2, a2, none⟩] (a.put (some d1) (rec1 c₀.mode).1).tmps) = true := rfl
    have hq : (#[⟨some d1, .call { callee := .builtin .recover, args := #[], argTypes := #[] }, t1, p1, a1, none⟩, ⟨some d2, .assign (.tmp d1), t2, p2, a2, none⟩] : Array Oper)[1]? = some ⟨some d2, .assign (.tmp d1), t2, p2, a2, none⟩ := rfl
    simp only [hq, hw, if_true, hasg, Oper.upon]
    exact key cs' hcs
  show wpOpsS P _ _ [0, 1] a (c₀ :: cs) w
  rw [wpOpsS]
  have hw : Region.wanted ⟨some d1, .call { callee := .builtin .recover, args := #[], argTypes := #[] }, t1, p1, a1, none⟩ (yielded #[⟨some d1, .call { callee := .builtin .recover, args := #[], argTypes := #[] }, t1, p1, a1, none⟩, ⟨some d2, .assign (.tmp d1), t2, p2, a2, none⟩] a.tmps) = true := rfl
  have hq : (#[⟨some d1, .call { callee := .builtin .recover, args := #[], argTypes := #[] }, t1, p1, a1, none⟩, ⟨some d2, .assign (.tmp d1), t2, p2, a2, none⟩] : Array Oper)[0]? = some ⟨some d1, .call { callee := .builtin .recover, args := #[], argTypes := #[] }, t1, p1, a1, none⟩ := rfl
  simp only [hq, hw, if_true, hrec]
  cases hm : recoverD (c₀ :: cs) with
  | none =>
    have e := rec_none hm
    have := hfin (c₀ :: cs) (by rw [e])
    rw [e] at this
    exact this
  | some r =>
    obtain ⟨v, cs'⟩ := r
    obtain ⟨rfl, e2⟩ := rec_some hm
    exact hfin cs' e2
def BPD (P : Program) (fn : Func) (Post : Ending → List Asrt → Prop) (F : Asrt) (w0 : World) : Exit → Act → World → Prop :=
  bodyPostD P fn fun e w' => ∃ L', Post e L' ∧ Sat w' (L' ++ [F]) ∧ Like w0 w'
theorem does_enterD {P : Program} {f : FuncId} {fn : Func} {code : Code} {args : List Value} {Pre : List Asrt} {Post : Ending → List Asrt → Prop} {n : Nat}
    (hf : P.funcs[f]? = some fn) (hb : fn.body = some code) (hn : fn.ntmps = n) (hle' : Nat.ble args.length n = true)
    (h : ∀ F w0, CW ⟨P, n, [], w0⟩ code (BPD P fn Post F w0) (envOf 0 args) (Pre ++ [F])) : Does P f args.toArray Pre Post := by
  have hle : args.length ≤ n := Nat.le_of_ble_eq_true hle'
  intro w F hsat
  refine calls_of_wp_defers hf hb (h F w _ w ?_)
  refine ⟨by simp [hn]; omega, ?_, rfl, hsat, Like.refl w⟩
  intro t v ht
  obtain ⟨_, h2⟩ := look_envOf args 0 t v ht
  simp only [Nat.sub_zero] at h2
  have hlt : t < args.length := by
    rcases Nat.lt_or_ge t args.length with h' | h'
    · exact h'
    · rw [List.getElem?_eq_none h'] at h2; cases h2
  rw [Array.getElem?_append_left (by simpa using hlt)]
  simpa using h2
section
variable {P : Program} {n : Nat} {ds : List Deferred} {w0 : World} {ops : Array Oper} {Q : Exit → Act → World → Prop} {rest : List Oper} {env : List (Nat × Value)} {L : List Asrt} {ty : TypeId} {pos : String} {af : Array Edge}
theorem ow_defer {fx : Operand} {f : FuncId} {xs : List Operand} {ats : Array TypeId} {first vs cap : List Value} (hf : evo env fx = some (.func (.func f) first.toArray cap.toArray)) (hv : xs.mapM (evo env) = some vs)
    (h : OW ⟨P, n, { target := .fn (.func f) cap.toArray, args := (first ++ vs).toArray } :: ds, w0⟩ ops Q rest env L) : OW ⟨P, n, ds, w0⟩ ops Q (⟨none, .defer { callee := .value fx, args := xs.toArray, argTypes := ats }, ty, pos, af, none⟩ :: rest) env L := by
  intro a w hh
  refine wpList_plain rfl fun K hK => ?_
  unfold Oper.wp
  have hargs : (xs.toArray.map a.eval) = vs.toArray := by simp [evals hh _ _ hv]
  have hrun : (execOp a.eval ⟨none, .defer { callee := .value fx, args := xs.toArray, argTypes := ats }, ty, pos, af, none⟩).run P w = .ok (.defer { target := .fn (.func f) cap.toArray, args := (first ++ vs).toArray }) w := by
    simp only [execOp, resolve, hargs, hh.eval hf, Deferred.ofValue, Sem.run_bind, Sem.run_pure, Result.andThen_ok]
    simp
  rw [hrun]
  exact hK _ _ (h _ _ ⟨hh.size, hh.slots, by show _ :: a.defers = _; rw [hh.defers], hh.sat, hh.like⟩)
variable {fn : Func} {Post : Ending → List Asrt → Prop} {F : Asrt} {f : FuncId} {cap args : List Value}
theorem kw_leaveD {e : Exit} {u : FrameMode} (he : (e = .normal ∨ e = .ret) ∧ u = .returning ∨ ∃ ch, e = .panic ch ∧ u = .panicking ch) (hq : ∀ a w, BPD P fn Post F w0 e a w → Q e a w) (hres : fn.results = #[]) (hb : hasBody P f = true) {Pre N M R L' : List Asrt}
    (hs : DoesD P f (args ++ cap).toArray u Pre (fun e u' L' => (∃ v, e = .returned v) ∧ settle u' = .returning ∧ L' = N)) (hL : Split L Pre M) (hF : Split (N ++ M) (F :: L') R) (hp : Post (.returned (.tuple #[])) L') :
    KW ⟨P, n, [{ target := .fn (.func f) cap.toArray, args := args.toArray }], w0⟩ Q e env L := by
  intro a w hh
  have hsat : Sat w (Pre ++ [star M]) := by
    have h1 := hh.sat.perm hL
    have h2 : Sat w (star M :: Pre) := sat_star.2 (h1.perm List.perm_append_comm)
    exact h2.perm (List.perm_append_comm (l₁ := [star M]) (l₂ := Pre))
  have hrun : (invoke (.fn (.func f) cap.toArray) args.toArray).run P w = .ok (.enter f (args ++ cap).toArray) w := by
    simp only [invoke]
    rw [show (args.toArray ++ cap.toArray) = (args ++ cap).toArray by simp]
    exact run_callFunc hb _ w
  have hlv : Leaves P fn a.tmps (fun e w' => ∃ L', Post e L' ∧ Sat w' (L' ++ [F]) ∧ Like w0 w') a.defers u w := by
    rw [hh.defers]
    refine ⟨by rcases he with ⟨_, rfl⟩ | ⟨_, _, rfl⟩ <;> simp, _, _, f, (args ++ cap).toArray, rfl, hrun, ?_⟩
    intro c₀ cs hc
    obtain ⟨e', u', w', fr, ⟨L1, ⟨⟨v, hv⟩, hset, rfl⟩, hs', hl⟩, hcm⟩ := hs w (star M) hsat c₀ cs hc
    refine ⟨e', u', w', fr, ?_, hcm⟩
    subst hv
    show Leaves P fn a.tmps _ [] (settle u') w'
    rw [hset]
    have hsat' : Sat w' (L1 ++ M) := by
      have h1 : Sat w' (star M :: L1) := hs'.perm (List.perm_append_comm (l₁ := L1) (l₂ := [star M]))
      exact (sat_star.1 h1).perm List.perm_append_comm
    refine ⟨.tuple #[], ?_, L', hp, ((hsat'.perm hF.back).perm List.perm_append_comm).drop, hh.like.trans hl⟩
    exact results_none hres _ _ _
  refine hq a w ?_
  rcases he with ⟨rfl | rfl, rfl⟩ | ⟨ch, rfl, rfl⟩ <;> exact hlv
end
end Go.Sl
end
section
namespace Go.Sl
theorem run_part {P : Program} {t : TypeId} (ht : tyScalar P t = true) {X : List Value} {i : Nat} {v : Value} (h : X[i]? = some v) (w : World) : (part t X.toArray i).run P w = .ok v w := by
  simp [part, run_isAgg_scalar ht, h]
section
variable {c : Cx} {env : List (Nat × Value)} {L : List Asrt} {d : Option Tmp} {ty : TypeId} {pos : String} {af : Array Edge} {g : Option (Nat × Bool)}
end
end Go.Sl
end
section
namespace Go.Sb
abbrev B := List UInt8
inductive Out (α : Type) where
  | ok (a : α)
  | err (e : Int)
  | big
abbrev Run (S α : Type) := S → Out α × S
section
variable {S α β : Type}
def ret (a : α) : Run S α := fun s => (.ok a, s)
def fail (e : Int) : Run S α := fun s => (.err e, s)
def andThen (m : Run S α) (f : α → Run S β) : Run S β := fun s => match m s with
  | (.ok a, t) => f a t
  | (.err e, t) => (.err e, t)
  | (.big, t) => (.big, t)
theorem andThen_ok {m : Run S α} {f : α → Run S β} {s t : S} {a : α} (h : m s = (.ok a, t)) : andThen m f s = f a t := by simp [andThen, h]
theorem andThen_err {m : Run S α} {f : α → Run S β} {s t : S} {e : Int} (h : m s = (.err e, t)) : andThen m f s = (.err e, t) := by simp [andThen, h]
theorem big1 {m : Run S α} {f : α → Run S β} {s : S} (h : (andThen m f s).1 ≠ .big) : (m s).1 ≠ .big := by
  intro e
  apply h
  unfold andThen
  split
  · rename_i h'; rw [h'] at e; cases e
  · rename_i h'; rw [h'] at e; cases e
  · rfl
theorem big2 {m : Run S α} {f : α → Run S β} {s t : S} {a : α} (h : (andThen m f s).1 ≠ .big) (hm : m s = (.ok a, t)) : (f a t).1 ≠ .big := by rwa [andThen_ok hm] at h
def each (f : α → Run S Unit) : List α → Run S Unit
  | [] => ret ()
  | x :: l => andThen (f x) fun _ => each f l
end
section
variable {K V : Type} [DecidableEq K]
def mget (k : K) : List (K × V) → Option V
  | [] => none
  | (j, v) :: m => if j = k then some v else mget k m
def mput (k : K) (v : V) : List (K × V) → List (K × V)
  | [] => [(k, v)]
  | (j, u) :: m => if j = k then (k, v) :: m else (j, u) :: mput k v m
def mdel (k : K) : List (K × V) → List (K × V)
  | [] => []
  | (j, u) :: m => if j = k then m else (j, u) :: mdel k m
end
structure Dk where
  l : List (B × B)
  armed : Bool
  left : Nat
  dead : Bool
  deriving Inhabited
def zeros (n : Nat) : B := List.replicate n 0
def dspend (d : Dk) : Out Unit × Dk :=
  if d.dead then (.err 12, d) else if d.armed = false then (.ok (), d) else
  match d.left with
  | 0 => (.err 12, { d with dead := true })
  | n + 1 => (.ok (), { d with left := n })
def dread (d : Dk) (at_ : Int) : Out B :=
  if d.dead then .err 12 else if at_ < 0 ∨ (d.l.length : Int) ≤ at_ then .err 6 else .ok (d.l.getD at_.toNat ([], [])).2
def dwrite (d : Dk) (at_ : Int) (s : B) : Out Unit × Dk :=
  if d.dead then (.err 12, d) else if at_ < 0 ∨ (d.l.length : Int) ≤ at_ then (.err 6, d) else if 64 < s.length then (.err 3, d) else
  match dspend d with
  | (.err e, d') => (.err e, d')
  | (.big, d') => (.big, d')
  | (.ok _, d') => (.ok (), { d' with l := d'.l.set at_.toNat ((d'.l.getD at_.toNat ([], [])).1, s ++ zeros (64 - s.length)) })
def dnew (n : Nat) : Dk := { l := List.replicate n (zeros 64, zeros 64), armed := false, left := 0, dead := false }
structure Ent where
  id : Int
  parent : Int
  only : Bool
  size : Int
  root : Int
  born : Int
  deriving Inhabited, DecidableEq
inductive Step where
  | give (at_ : Int)
  | back (at_ : Int)
  | refs (k : Int) (was : Option Int)
  | young (k : Int) (was : Option Int)
  | index (k : B) (was : Option Int)
  | vols (k : Int) (was : Option Ent)
  | keep (was : Int)
  | gone (was : List Int)
  | next (was : Int)
structure St where
  d : Dk
  fr : Nat
  g : List Nat
  refs : List (Int × Int)
  young : List (Int × Int)
  gone : List Int
  keep : Int
  log : List Step
  depth : Nat
  bits : Nat
  index : List (B × Int)
  vols : List (Int × Ent)
  next : Int
  epoch : Int
abbrev M (α : Type) := Run St α
def isB (fr : Nat) (l : List Nat) (at_ : Int) (what : Nat) : Bool := decide (at_ ≥ fr) && (decide (at_ - fr < l.length) && decide (l[(at_ - fr).toNat]? = some what))
def mvL (fr : Nat) (l : List Nat) (at_ : Int) (k to_ : Nat) : List Nat := match isB fr l at_ k with | true => l.set (at_ - fr).toNat to_ | false => l
def takeAt (fr : Nat) (l : List Nat) : Int := match l.findIdx? (· == 0) with | some i => (fr + i : Nat) | none => 0
def takeL (l : List Nat) : List Nat := match l.findIdx? (· == 0) with | some i => l.set i 1 | none => l
def restore {K V : Type} [DecidableEq K] (k : K) (was : Option V) (m : List (K × V)) : List (K × V) := match was with
  | some v => mput k v m
  | none => mdel k m
def undo1 (st : Step) (s : St) : St := match st with
  | .give a => { s with g := mvL s.fr s.g a 1 0 }
  | .back a => { s with g := mvL s.fr s.g a 2 1 }
  | .refs k was => { s with refs := restore k was s.refs }
  | .young k was => { s with young := restore k was s.young }
  | .index k was => { s with index := restore k was s.index }
  | .vols k was => { s with vols := restore k was s.vols }
  | .keep w => { s with keep := w }
  | .gone w => { s with gone := w }
  | .next w => { s with next := w }
def undoL (s : St) : List Step → St
  | [] => s
  | st :: l => undo1 st (undoL s l)
def undoTo (mark : Nat) (s : St) : St := { undoL s (s.log.drop mark) with log := s.log.take mark }
def bk (depth : Nat) (log : List Step) (st : Step) : List Step := if 0 < depth then log ++ [st] else log
def back (st : Step) : M Unit := fun s => if 1000000000 ≤ s.log.length then (.big, s) else (.ok (), { s with log := bk s.depth s.log st })
def setKeep (n : Int) : M Unit := andThen (fun s => back (.keep s.keep) s) fun _ s => (.ok (), { s with keep := n })
def setGone (l : List Int) : M Unit := fun s => if 1000000000 ≤ l.length then (.big, s) else andThen (fun s => back (.gone s.gone) s) (fun _ s => (.ok (), { s with gone := l })) s
def setNext (n : Int) : M Unit := andThen (fun s => back (.next s.next) s) fun _ s => (.ok (), { s with next := n })
def putRefs (k v : Int) : M Unit := andThen (fun s => back (.refs k (mget k s.refs)) s) fun _ s => (.ok (), { s with refs := mput k v s.refs })
def putYoung (k v : Int) : M Unit := andThen (fun s => back (.young k (mget k s.young)) s) fun _ s => (.ok (), { s with young := mput k v s.young })
def putIndex (k : B) (v : Int) : M Unit := andThen (fun s => back (.index k (mget k s.index)) s) fun _ s => (.ok (), { s with index := mput k v s.index })
def putVols (k : Int) (v : Ent) : M Unit := andThen (fun s => back (.vols k (mget k s.vols)) s) fun _ s => (.ok (), { s with vols := mput k v s.vols })
def dropRefs (k : Int) : M Unit := andThen (fun s => back (.refs k (mget k s.refs)) s) fun _ s => (.ok (), { s with refs := mdel k s.refs })
def dropYoung (k : Int) : M Unit := andThen (fun s => back (.young k (mget k s.young)) s) fun _ s => (.ok (), { s with young := mdel k s.young })
def dropIndex (k : B) : M Unit := andThen (fun s => back (.index k (mget k s.index)) s) fun _ s => (.ok (), { s with index := mdel k s.index })
def wrap64 (x : Int) : Int := (x + 9223372036854775808) % 18446744073709551616 - 9223372036854775808
def refsOf (s : St) (at_ : Int) : Int := (mget at_ s.refs).getD 0
def youngOf (s : St) (at_ : Int) : Int := (mget at_ s.young).getD 0
def freeN (s : St) : Nat := s.g.count 0
def hkeep (n : Int) : M Unit := setKeep (max n 0)
def onDisk (f : Dk → Out Unit × Dk) : M Unit := fun s => match f s.d with | (o, d) => (o, { s with d := d })
def hput (b : B) : M Int := fun s =>
  if (freeN s : Int) ≤ s.keep then (.err 8, s) else
  let a := takeAt s.fr s.g
  andThen (fun s => back (.give a) { s with g := takeL s.g }) (fun _ =>
  andThen (putRefs a 1) fun _ => andThen (putYoung a 1) fun _ => andThen (onDisk fun d => dwrite d a b) fun _ => ret a) s
def hget (at_ : Int) : M B := fun s => if refsOf s at_ = 0 then (.err 6, s) else (dread s.d at_, s)
def hmore (at_ : Int) : M Unit := fun s => if refsOf s at_ = 0 then (.err 6, s) else putRefs at_ (wrap64 (refsOf s at_ + 1)) s
def inR (x : Int) : Bool := decide (-9223372036854775808 ≤ x ∧ x ≤ 9223372036854775807)
def hless (at_ : Int) : M Bool := fun s =>
  if inR at_ = false then (.big, s) else if refsOf s at_ = 0 then (.err 6, s) else if refsOf s at_ = 1 then
    andThen (dropRefs at_) (fun _ =>
    andThen (fun s => back (.back at_) { s with g := mvL s.fr s.g at_ 1 2 }) fun _ =>
    andThen (fun s => if 0 < youngOf s at_ then andThen (dropYoung at_) (fun _ s => setGone (s.gone ++ [at_]) s) s else ret () s) fun _ => ret true) s
  else andThen (putRefs at_ (wrap64 (refsOf s at_ - 1))) (fun _ => ret false) s
def freeGone (s : St) : St := { s with g := s.gone.foldl (fun g a => mvL s.fr (mvL s.fr g a 2 1) a 1 0) s.g, gone := [] }
def leave (s : St) : St := if s.depth = 1 then { s with depth := 0, log := [] } else { s with depth := s.depth - 1 }
def tryL {C : Type} (run : Run (St × C) Unit) : Run (St × C) Int := fun x =>
  if 1000000000 ≤ x.1.depth then (.big, x) else match run ({ x.1 with depth := x.1.depth + 1 }, x.2) with
  | (.ok _, (t, c')) => if t.depth = 0 then (.big, (t, c')) else (.ok 0, (leave t, c'))
  | (.err e, (t, c')) => if t.depth = 0 ∨ e = 0 then (.big, (t, c')) else (.ok e, (leave (undoTo x.1.log.length t), c'))
  | (.big, t) => (.big, t)
def tryR {C : Type} (run : Run (St × C) Unit) : Run (St × C) Int := andThen (tryL run) fun e x => (.ok e, (if x.1.depth = 0 then freeGone x.1 else x.1, x.2))
def be (l : B) : Nat := l.foldl (fun n c => n * 256 + c.toNat) 0
def beB (x k : Nat) : Nat → B
  | 0 => []
  | m + 1 => beB x k m ++ [UInt8.ofNat (x / 256 ^ (k - 1 - m))]
def allZero (l : B) : Bool := l.all (· == 0)
def padTo (n : Nat) (l : B) : B := l ++ zeros (n - l.length)
def u64 (x : Int) : Nat := (x % 18446744073709551616).toNat
def headBits (n : Nat) (l : B) : B := l.mapIdx fun i c => if n < 8 * i + 8 then c &&& UInt8.ofNat (255 - 255 / 2 ^ (n - 8 * i)) else c
end Go.Sb
end
section
namespace Go.Sl
open Go.Sb
def faultT (ft : TypeId) (e : Int) : List PanicEntry := [{ v := .iface ft (.agg #[.int .i64 e]), recovered := false }]
def Ran {S α : Type} (ft : TypeId) (R : S → List Asrt) (val : α → Value) (o : Out α × S) : Ending → List Asrt → Prop := fun en L => match o with
  | (.ok a, s) => en = .returned (val a) ∧ L = R s
  | (.err e, s) => en = .panicked (faultT ft e) ∧ L = R s
  | (.big, _) => False
section
variable {c : Cx} {ops : Array Oper} {Q : Exit → Act → World → Prop} {rest : List Oper} {env : List (Nat × Value)} {L : List Asrt}
  {d : Tmp} {ty : TypeId} {pos : String} {af : Array Edge} {fx : Operand} {f : FuncId} {xs : List Operand} {ats : Array TypeId} {first vs cap : List Value} {Pre M : List Asrt}
theorem ow_ran {S α : Type} {ft : TypeId} {R : S → List Asrt} {val : α → Value} {o : Out α × S}
    (hf : evo env fx = some (.func (.func f) first.toArray cap.toArray)) (hb : hasBody c.P f = true) (hv : xs.mapM (evo env) = some vs)
    (hs : Does c.P f (first ++ vs ++ cap).toArray Pre (Ran ft R val o)) (hL : Split L Pre M)
    (hok : ∀ a s, o = (.ok a, s) → OW c ops Q rest ((d, val a) :: env) (R s ++ M))
    (herr : ∀ e s, o = (.err e, s) → KW c Q (.panic (faultT ft e)) env (R s ++ M)) (hd : Nat.blt d c.n = true := by rfl) :
    OW c ops Q (⟨some d, .call { callee := .value fx, args := xs.toArray, argTypes := ats }, ty, pos, af, none⟩ :: rest) env L := by
  refine ow_call hf hb hv hs hL (fun u L' hp a w hh => ?_) (fun ch L' hp => ?_) (fun L' hp => ?_)
  · obtain ⟨x, s⟩ := o
    cases x with
    | ok x => obtain ⟨e, rfl⟩ := hp; cases e; exact hok x s rfl _ _ (hh.put d _ hd)
    | err x => obtain ⟨e, rfl⟩ := hp; cases e
    | big => exact hp.elim
  · obtain ⟨x, s⟩ := o
    cases x with
    | ok x => obtain ⟨e, rfl⟩ := hp; cases e
    | err x => obtain ⟨e, rfl⟩ := hp; cases e; exact herr x s rfl
    | big => exact hp.elim
  · obtain ⟨x, s⟩ := o
    cases x with
    | ok x => obtain ⟨e, rfl⟩ := hp; cases e
    | err x => obtain ⟨e, rfl⟩ := hp; cases e
    | big => exact hp.elim
end
theorem Does.ran_ok {P : Program} {f : FuncId} {args : Array Value} {Pre : List Asrt} {S α : Type} {ft : TypeId} {R : S → List Asrt} {val : α → Value} {a : α} {s : S}
    (h : Does P f args Pre (Ran ft R val (.ok a, s))) : Does P f args Pre (Gives (val a) (R s)) := h
end Go.Sl
namespace Go.Sl
open Go.Sb
section
variable {P : Program} {n : Nat} {w0 : World} {Q : Exit → Act → World → Prop} {env : List (Nat × Value)} {L : List Asrt} {fn : Func} {F : Asrt}
  {S α : Type} {ft : TypeId} {R : S → List Asrt} {val : α → Value} {o : Out α × S}
theorem cw_retR {a : α} {s : S} {u : Value} {R' : List Asrt} (ho : o = (.ok a, s)) (hq : ∀ a w, BP P fn (Ran ft R val o) F w0 .ret a w → Q .ret a w) (hv : resv fn env = some u) (hu : u = val a) (hL : Split L (F :: R s) R') :
    CW ⟨P, n, [], w0⟩ .ret Q env L := by subst ho; exact cw_ret (kw_ret hq hv hL.back ⟨by rw [hu], rfl⟩)
theorem kw_finR {a : α} {s : S} {u : Value} {R' : List Asrt} (ho : o = (.ok a, s)) (hv : resv fn env = some u) (hu : u = val a) (hL : Split L (F :: R s) R') :
    KW ⟨P, n, [], w0⟩ (BP P fn (Ran ft R val o) F w0) .normal env L := by subst ho; exact kw_fin hv hL.back ⟨by rw [hu], rfl⟩
theorem kw_errR {e : Int} {s : S} {R' : List Asrt} (ho : o = (.err e, s)) (hq : ∀ a w, BP P fn (Ran ft R val o) F w0 (.panic (faultT ft e)) a w → Q (.panic (faultT ft e)) a w) (hL : Split L (F :: R s) R') :
    KW ⟨P, n, [], w0⟩ Q (.panic (faultT ft e)) env L := by subst ho; exact kw_panic hq hL.back ⟨rfl, rfl⟩
end
end Go.Sl
end
