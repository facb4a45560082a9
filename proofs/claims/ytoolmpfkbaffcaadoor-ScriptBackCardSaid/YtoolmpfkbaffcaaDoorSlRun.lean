/- Walks that follow a plain function: what fails goes on, what is well goes on with what the function says. -/
import Derived.Test.YtoolmpfkbaffcaaDoorSlEq
import Derived.Test.YtoolmpfkbaffcaaDoorModel
set_option linter.all false
namespace Go.Sl
open Go.Sb
/-- what Fail panics with (ft: the type of faults) -/
def faultT (ft : TypeId) (e : Int) : List PanicEntry := [{ v := .iface ft (.agg #[.int .i64 e]), recovered := false }]
/-- it ends as the plain function says -/
def Ran {S α : Type} (ft : TypeId) (R : S → List Asrt) (val : α → Value) (o : Out α × S) : Ending → List Asrt → Prop := fun en L => match o with
  | (.ok a, s) => en = .returned (val a) ∧ L = R s
  | (.err e, s) => en = .panicked (faultT ft e) ∧ L = R s
  | (.big, _) => False
/-- the same, with pieces of which something is not told -/
def RanE {S α X : Type} (ft : TypeId) (R : X → S → List Asrt) (val : X → α → Value) (o : Out α × S) : Ending → List Asrt → Prop := fun en L => ∃ x, match o with
  | (.ok a, s) => en = .returned (val x a) ∧ L = R x s
  | (.err e, s) => en = .panicked (faultT ft e) ∧ L = R x s
  | (.big, _) => False
section
variable {c : Cx} {ops : Array Oper} {Q : Exit → Act → World → Prop} {rest : List Oper} {env : List (Nat × Value)} {L : List Asrt}
  {d : Tmp} {ty : TypeId} {pos : String} {af : Array Edge} {fx : Operand} {f : FuncId} {xs : List Operand} {ats : Array TypeId} {first vs cap : List Value} {Pre M : List Asrt}
theorem ow_ran {S α : Type} {ft : TypeId} {R : S → List Asrt} {val : α → Value} {o : Out α × S}
    (hf : evo env fx = some (.func (.func f) first.toArray cap.toArray)) (hb : hasBody c.P f = true) (hv : xs.mapM (evo env) = some vs)
    (hs : Does c.P f (first ++ vs ++ cap).toArray Pre (Ran ft R val o)) (hL : Split L Pre M)
    (hok : ∀ a s, o = (.ok a, s) → OW c ops Q rest ((d, val a) :: env) (R s ++ M))
    (herr : ∀ e s, o = (.err e, s) → KW c Q (.panic (faultT ft e)) env (R s ++ M)) (hd : Nat.blt d c.n = true := by rfl) :
    OW c ops Q (⟨some d, .call { callee := .value fx, args := xs.toArray, argTypes := ats }, ty, pos, af, none⟩ :: rest) env L := by
  refine ow_call hf hb hv hs hL (fun u L' hp a w hh => ?_) (fun ch L' hp => ?_) (fun L' hp => ?_)
  · obtain ⟨x, s⟩ := o
    cases x with
    | ok x => obtain ⟨e, rfl⟩ := hp; cases e; exact hok x s rfl _ _ (hh.put d _ hd)
    | err x => obtain ⟨e, rfl⟩ := hp; cases e
    | big => exact hp.elim
  · obtain ⟨x, s⟩ := o
    cases x with
    | ok x => obtain ⟨e, rfl⟩ := hp; cases e
    | err x => obtain ⟨e, rfl⟩ := hp; cases e; exact herr x s rfl
    | big => exact hp.elim
  · obtain ⟨x, s⟩ := o
    cases x with
    | ok x => obtain ⟨e, rfl⟩ := hp; cases e
    | err x => obtain ⟨e, rfl⟩ := hp; cases e
    | big => exact hp.elim
theorem ow_ran0 {S α : Type} {ft : TypeId} {R : S → List Asrt} {val : α → Value} {o : Out α × S}
    (hf : evo env fx = some (.func (.func f) first.toArray cap.toArray)) (hb : hasBody c.P f = true) (hv : xs.mapM (evo env) = some vs)
    (hs : Does c.P f (first ++ vs ++ cap).toArray Pre (Ran ft R val o)) (hL : Split L Pre M)
    (hok : ∀ a s, o = (.ok a, s) → OW c ops Q rest env (R s ++ M))
    (herr : ∀ e s, o = (.err e, s) → KW c Q (.panic (faultT ft e)) env (R s ++ M)) :
    OW c ops Q (⟨none, .call { callee := .value fx, args := xs.toArray, argTypes := ats }, ty, pos, af, none⟩ :: rest) env L := by
  refine ow_call hf hb hv hs hL (fun u L' hp a w hh => ?_) (fun ch L' hp => ?_) (fun L' hp => ?_)
  · obtain ⟨x, s⟩ := o
    cases x with
    | ok x => obtain ⟨e, rfl⟩ := hp; cases e; exact hok x s rfl _ _ hh
    | err x => obtain ⟨e, rfl⟩ := hp; cases e
    | big => exact hp.elim
  · obtain ⟨x, s⟩ := o
    cases x with
    | ok x => obtain ⟨e, rfl⟩ := hp; cases e
    | err x => obtain ⟨e, rfl⟩ := hp; cases e; exact herr x s rfl
    | big => exact hp.elim
  · obtain ⟨x, s⟩ := o
    cases x with
    | ok x => obtain ⟨e, rfl⟩ := hp; cases e
    | err x => obtain ⟨e, rfl⟩ := hp; cases e
    | big => exact hp.elim
end
/-- a contract's end, said in another way -/
theorem ran_eq {S α : Type} {ft : TypeId} {R : S → List Asrt} {val : α → Value} {o o' : Out α × S} (h : o = o') {en : Ending} {L : List Asrt} (k : Ran ft R val o en L) : Ran ft R val o' en L := h ▸ k
theorem Does.ran_ok {P : Program} {f : FuncId} {args : Array Value} {Pre : List Asrt} {S α : Type} {ft : TypeId} {R : S → List Asrt} {val : α → Value} {a : α} {s : S}
    (h : Does P f args Pre (Ran ft R val (.ok a, s))) : Does P f args Pre (Gives (val a) (R s)) := h
end Go.Sl
namespace Go.Sl
open Go.Sb
section
variable {P : Program} {n : Nat} {w0 : World} {Q : Exit → Act → World → Prop} {env : List (Nat × Value)} {L : List Asrt} {fn : Func} {F : Asrt}
  {S α : Type} {ft : TypeId} {R : S → List Asrt} {val : α → Value} {o : Out α × S}
theorem cw_retR {a : α} {s : S} {u : Value} {R' : List Asrt} (ho : o = (.ok a, s)) (hq : ∀ a w, BP P fn (Ran ft R val o) F w0 .ret a w → Q .ret a w) (hv : resv fn env = some u) (hu : u = val a) (hL : Split L (F :: R s) R') :
    CW ⟨P, n, [], w0⟩ .ret Q env L := by subst ho; exact cw_ret (kw_ret hq hv hL.back ⟨by rw [hu], rfl⟩)
theorem kw_finR {a : α} {s : S} {u : Value} {R' : List Asrt} (ho : o = (.ok a, s)) (hv : resv fn env = some u) (hu : u = val a) (hL : Split L (F :: R s) R') :
    KW ⟨P, n, [], w0⟩ (BP P fn (Ran ft R val o) F w0) .normal env L := by subst ho; exact kw_fin hv hL.back ⟨by rw [hu], rfl⟩
theorem kw_errR {e : Int} {s : S} {R' : List Asrt} (ho : o = (.err e, s)) (hq : ∀ a w, BP P fn (Ran ft R val o) F w0 (.panic (faultT ft e)) a w → Q (.panic (faultT ft e)) a w) (hL : Split L (F :: R s) R') :
    KW ⟨P, n, [], w0⟩ Q (.panic (faultT ft e)) env L := by subst ho; exact kw_panic hq hL.back ⟨rfl, rfl⟩
end
end Go.Sl
