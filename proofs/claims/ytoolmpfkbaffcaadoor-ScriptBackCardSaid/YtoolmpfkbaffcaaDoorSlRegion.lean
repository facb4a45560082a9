/- Regions whose order the tape draws: those that read, and then do one thing behind the other. -/
import Derived.Test.YtoolmpfkbaffcaaDoorSlCode
import Derived.StillTail
set_option linter.all false
namespace Go.Sl
section
variable {c : Cx} {ops : Array Oper} {Q : Exit → Act → World → Prop} {rest : List Oper} {env : List (Nat × Value)} {L : List Asrt} {Qs : List (Nat × Value) → Prop}
  {d : Tmp} {op : Op} {ty : TypeId} {pos : String} {af : Array Edge}

/-- operations that only read -/
def OS (c : Cx) (ops : Array Oper) (L : List Asrt) (Qs : List (Nat × Value) → Prop) (l : List Oper) (env : List (Nat × Value)) : Prop :=
  ∀ a w, Holds c env L a w → wpStill c.P ops w (fun a' => ∃ env', Qs env' ∧ Holds c env' L a' w) l a

theorem os_nil (h : Qs env) : OS c ops L Qs [] env := fun _ _ hh => wpStill_nil ⟨env, h, hh⟩
theorem os_y {v : Value} (hy : Yields c ⟨some d, op, ty, pos, af, none⟩ env L v) (h : OS c ops L Qs rest ((d, v) :: env)) (hd : Nat.blt d c.n = true := by rfl) : OS c ops L Qs (⟨some d, op, ty, pos, af, none⟩ :: rest) env := by
  intro a w hh
  refine wpStill_step fun K hK => ?_
  simp only [Region.wanted, if_true]
  unfold Oper.still
  rw [hy a w hh]
  exact ⟨rfl, hK _ (h _ _ (hh.put d v hd))⟩
theorem os_yg {v : Value} {gd : Nat × Bool} (hw : ∀ a w, Holds c env L a w → Region.wanted ⟨some d, op, ty, pos, af, some gd⟩ (yielded ops a.tmps) = true) (hy : Yields c ⟨some d, op, ty, pos, af, some gd⟩ env L v)
    (h : OS c ops L Qs rest ((d, v) :: env)) (hd : Nat.blt d c.n = true := by rfl) : OS c ops L Qs (⟨some d, op, ty, pos, af, some gd⟩ :: rest) env := by
  intro a w hh
  refine wpStill_step fun K hK => ?_
  rw [if_pos (hw a w hh)]
  unfold Oper.still
  rw [hy a w hh]
  exact ⟨rfl, hK _ (h _ _ (hh.put d v hd))⟩
theorem os_skip {o : Oper} (hw : ∀ a w, Holds c env L a w → Region.wanted o (yielded ops a.tmps) = false) (hd : o.dst = some d)
    (h : OS c ops L Qs rest ((d, undef) :: env)) (hlt : Nat.blt d c.n = true := by rfl) : OS c ops L Qs (o :: rest) env := by
  intro a w hh
  refine wpStill_step fun K hK => ?_
  rw [if_neg (by rw [hw a w hh]; simp), hd]
  exact hK _ (h _ _ (hh.put d undef hlt))

/-- it reads, and at last does one thing behind the other -/
theorem cw_tail {id : Nat} {l : List Oper} (n : Nat) (hm : c.P.follows .mixedOrders = true) (hB : Region.lexTailB .any l.toArray n = true)
    (h : OS c l.toArray L (fun env' => OW c l.toArray Q (l.drop n) env' L) (l.take n) env) : CW c (.region id l.toArray true) Q env L := by
  intro a w hh
  refine wp_region_still_tail n hm hB ?_
  have h1 := h a w.drew hh.drew
  have mono : ∀ (l' : List Oper) (a : Act) (K K' : Act → Prop), (∀ a, K a → K' a) → wpStill c.P l.toArray w.drew K l' a → wpStill c.P l.toArray w.drew K' l' a := by
    intro l'
    induction l' with
    | nil => intro a K K' hK h; exact hK _ h
    | cons o r ih =>
      intro a K K' hK h
      unfold wpStill at h ⊢
      split
      · rename_i hw; rw [if_pos hw] at h; exact Oper.still_mono (fun a' h' => ih a' K K' hK h') h
      · rename_i hw; rw [if_neg hw] at h; exact ih _ K K' hK h
  refine mono _ a _ _ ?_ h1
  rintro a' ⟨env', hq, hh'⟩
  exact hq a' _ hh'
/-- it only reads -/
theorem cw_soft {id : Nat} {l : List Oper} (hm : c.P.follows .mixedOrders = true) (hB : Region.lexB .any l.toArray = true)
    (h : OS c l.toArray L (fun env' => KW c Q .normal env' L) l env) : CW c (.region id l.toArray true) Q env L := by
  intro a w hh
  refine wp_region_still_lit hm hB ?_
  have h1 := h a w.drew hh.drew
  have mono : ∀ (l' : List Oper) (a : Act) (K K' : Act → Prop), (∀ a, K a → K' a) → wpStill c.P l.toArray w.drew K l' a → wpStill c.P l.toArray w.drew K' l' a := by
    intro l'
    induction l' with
    | nil => intro a K K' hK h; exact hK _ h
    | cons o r ih =>
      intro a K K' hK h
      unfold wpStill at h ⊢
      split
      · rename_i hw; rw [if_pos hw] at h; exact Oper.still_mono (fun a' h' => ih a' K K' hK h') h
      · rename_i hw; rw [if_neg hw] at h; exact ih _ K K' hK h
  refine mono _ a _ _ ?_ h1
  rintro a' ⟨env', hq, hh'⟩
  exact hq a' _ hh'
end

/-! ### guards, pointers, returns -/
theorem wTT {b : Bool} (h : b = true) : (b == true) = true := by rw [h]; rfl
theorem wFF {b : Bool} (h : b = false) : (b == false) = true := by rw [h]; rfl
theorem wTF {b : Bool} (h : b = false) : (b == true) = false := by rw [h]; rfl
theorem wFT {b : Bool} (h : b = true) : (b == false) = false := by rw [h]; rfl

section
variable {P : Program} {n : Nat} {w0 : World} {Q : Exit → Act → World → Prop} {env : List (Nat × Value)} {L : List Asrt} {fn : Func} {F : Asrt} {c : Cx}
theorem Split.back {L N R : List Asrt} {A : Asrt} (h : Split L (A :: N) R) : Split L (N ++ [A]) R := List.Perm.trans h ((List.perm_append_comm (l₁ := [A]) (l₂ := N)).append_right R)
/-- it returns just what was promised -/
theorem cw_retG {v u : Value} {N R : List Asrt} (hq : ∀ a w, BP P fn (Gives v N) F w0 .ret a w → Q .ret a w) (hv : resv fn env = some u) (hu : u = v) (hL : Split L (F :: N) R) : CW ⟨P, n, [], w0⟩ .ret Q env L :=
  cw_ret (kw_ret hq hv hL.back ⟨by rw [hu], rfl⟩)
theorem kw_finG {v u : Value} {N R : List Asrt} (hv : resv fn env = some u) (hu : u = v) (hL : Split L (F :: N) R) : KW ⟨P, n, [], w0⟩ (BP P fn (Gives v N) F w0) .normal env L :=
  kw_fin hv hL.back ⟨by rw [hu], rfl⟩
theorem cw_retE {X : Type} {p : X → Prop} {v : X → Value} {N : X → List Asrt} {u : Value} {R : List Asrt} (x : X) (hx : p x) (hq : ∀ a w, BP P fn (GivesE p v N) F w0 .ret a w → Q .ret a w) (hv : resv fn env = some u) (hu : u = v x) (hL : Split L (F :: N x) R) : CW ⟨P, n, [], w0⟩ .ret Q env L :=
  cw_ret (kw_ret hq hv hL.back ⟨x, hx, by rw [hu], rfl⟩)
theorem kw_finE {X : Type} {p : X → Prop} {v : X → Value} {N : X → List Asrt} {u : Value} {R : List Asrt} (x : X) (hx : p x) (hv : resv fn env = some u) (hu : u = v x) (hL : Split L (F :: N x) R) : KW ⟨P, n, [], w0⟩ (BP P fn (GivesE p v N) F w0) .normal env L :=
  kw_fin hv hL.back ⟨x, hx, by rw [hu], rfl⟩
theorem cw_retF {X Y : Type} {p : X → Prop} {v : X → Value} {N : X → List Asrt} {q : Y → Prop} {ch : Y → List PanicEntry} {N' : Y → List Asrt} {u : Value} {R : List Asrt} (x : X) (hx : p x) (hq : ∀ a w, BP P fn (GivesF p v N q ch N') F w0 .ret a w → Q .ret a w) (hv : resv fn env = some u) (hu : u = v x) (hL : Split L (F :: N x) R) : CW ⟨P, n, [], w0⟩ .ret Q env L :=
  cw_ret (kw_ret hq hv hL.back (.inl ⟨x, hx, by rw [hu], rfl⟩))
theorem kw_finF {X Y : Type} {p : X → Prop} {v : X → Value} {N : X → List Asrt} {q : Y → Prop} {ch : Y → List PanicEntry} {N' : Y → List Asrt} {u : Value} {R : List Asrt} (x : X) (hx : p x) (hv : resv fn env = some u) (hu : u = v x) (hL : Split L (F :: N x) R) : KW ⟨P, n, [], w0⟩ (BP P fn (GivesF p v N q ch N') F w0) .normal env L :=
  kw_fin hv hL.back (.inl ⟨x, hx, by rw [hu], rfl⟩)
theorem cw_eqL {y : Code} {L' : List Asrt} (h : L = L') (k : CW c y Q env L') : CW c y Q env L := h ▸ k
theorem kw_eqL {e : Exit} {L' : List Asrt} (h : L = L') (k : KW c Q e env L') : KW c Q e env L := h ▸ k
/-- where two ways meet: what is known behind both -/
theorem cw_meet {x y : Code} {Q : Exit → Act → World → Prop} (e' : List (Nat × Value)) (L' : List Asrt) (h1 : CW c x (Exit.then (fun a w => Holds c e' L' a w) Q) env L) (h2 : CW c y Q e' L') : CW c (x.seq y) Q env L := by
  refine cw_seq fun a w hh => wp_mono (h1 a w hh) ?_
  intro e a' w' q
  cases e with
  | normal => exact h2 _ _ q
  | exit _ => exact q
  | goto _ => exact q
  | ret => exact q
  | panic _ => exact q
  | outgrown => exact q
theorem cw_meetE {X : Type} {x y : Code} {Q : Exit → Act → World → Prop} (e' : X → List (Nat × Value)) (L' : X → List Asrt) (h1 : CW c x (Exit.then (fun a w => ∃ z, Holds c (e' z) (L' z) a w) Q) env L) (h2 : ∀ z, CW c y Q (e' z) (L' z)) : CW c (x.seq y) Q env L := by
  refine cw_seq fun a w hh => wp_mono (h1 a w hh) ?_
  intro e a' w' q
  cases e with
  | normal => obtain ⟨z, q⟩ := q; exact h2 z _ _ q
  | exit _ => exact q
  | goto _ => exact q
  | ret => exact q
  | panic _ => exact q
  | outgrown => exact q
theorem kw_meetE {X : Type} {e : Exit} {e' : X → List (Nat × Value)} {L' : X → List Asrt} {R : List Asrt} {Q : Exit → Act → World → Prop} (hq : ∀ a w, (∃ z, Holds c (e' z) (L' z) a w) → Q e a w) (z : X) (he : Sub env (e' z)) (hL : Split L (L' z) R) : KW c Q e env L := fun a w hh => hq a w ⟨z, hh.weaken he.le ⟨R, hL⟩⟩
theorem kw_meet {e : Exit} {e' : List (Nat × Value)} {L' R : List Asrt} {Q : Exit → Act → World → Prop} (hq : ∀ a w, Holds c e' L' a w → Q e a w) (he : Sub env e') (hL : Split L L' R) : KW c Q e env L := fun a w hh => hq a w (hh.weaken he.le ⟨R, hL⟩)
theorem kw_rnd {X : Type} {e : Exit} {E : X → List (Nat × Value)} {M : X → List Asrt} {μ : X → Nat} {m : Nat} {R : List Asrt} {Q : Exit → Act → World → Prop} (hq : ∀ a w, (∃ z, Holds c (E z) (M z) a w ∧ μ z < m) → Q e a w) (z : X) (hμ : μ z < m) (he : Sub env (E z)) (hL : Split L (M z) R) : KW c Q e env L := fun a w hh => hq a w ⟨z, hh.weaken he.le ⟨R, hL⟩, hμ⟩
end

/-! ### results that lie in memory -/
inductive RV (c : Cx) (env : List (Nat × Value)) (L : List Asrt) : List ResultVar → List Value → Prop
  | nil : RV c env L [] []
  | tmp {t v r vs} (h : look env t = some v) (k : RV c env L r vs) : RV c env L (.tmp t :: r) (v :: vs)
  | cell {t ty b o cs e fr M v r vs} (ht : tyScalar c.P ty = true) (h : look env t = some (.pointer (some ⟨b, o, none⟩))) [hL : FndB L b (.cells (List.toArray cs) e fr) M] (hv : nth cs o = some v) (k : RV c env L r vs) : RV c env L (.cell t ty :: r) (v :: vs)
  | agg {t ty b o n cs e fr M v r vs} (ht : tyAgg c.P ty n = true) (h : look env t = some (.pointer (some ⟨b, o, none⟩))) [hL : FndB L b (.cells cs e fr) M] (hn : o + n ≤ cs.size) (hv : cs.extract o (o + n) = v) (k : RV c env L r vs) : RV c env L (.cell t ty :: r) (.agg v :: vs)
def oneOf : List Value → Value
  | [v] => v
  | vs => .tuple vs.toArray
def rvRun (tmps : Array Value) : ResultVar → Sem Value
  | .tmp t => pure (tmps.getD t undef)
  | .cell p t => do loadVar t (← asAddr (tmps.getD p undef))
theorem RV.runs {c : Cx} {env : List (Nat × Value)} {L : List Asrt} {a : Act} {w : World} (hh : Holds c env L a w) : ∀ {rs : List ResultVar} {vs : List Value}, RV c env L rs vs → (rs.mapM (rvRun a.tmps)).run c.P w = .ok vs w := by
  intro rs vs h
  induction h with
  | nil => simp
  | tmp h k ih => rw [List.mapM_cons]; simp [Sem.run_bind, rvRun, hh.slots _ _ h, ih]
  | cell ht h hv k ih =>
    rename_i hL
    have hb := (hL.sat hh.sat).pts
    rw [nth_eq] at hv
    have h1 := hh.slots _ _ h
    rw [List.mapM_cons]
    simp [Sem.run_bind, rvRun, h1, asAddr, loadVar, run_isAgg_scalar ht, World.cell?, hb, hv, ih]
  | agg ht h hn hv k ih =>
    rename_i hL
    have hb := (hL.sat hh.sat).pts
    have h1 := hh.slots _ _ h
    rw [List.mapM_cons]
    simp [Sem.run_bind, rvRun, h1, asAddr, loadVar, run_isAgg_agg ht, run_sizeOf_agg ht, run_loadCells_blk hb hn, hv, ih]
theorem RV.res {c : Cx} {env : List (Nat × Value)} {L : List Asrt} {a : Act} {w : World} {fn : Func} {vs : List Value} (hh : Holds c env L a w) (h : RV c env L fn.results.toList vs) : (results fn a.tmps).run c.P w = .ok (oneOf vs) w := by
  have e : results fn a.tmps = (do let vs ← fn.results.mapM (rvRun a.tmps); pure (if h : vs.size = 1 then vs[0] else .tuple vs)) := by
    unfold results
    congr 1
  rw [e, Array.mapM_eq_mapM_toList]
  have := RV.runs hh h
  simp only [Sem.run_bind, Sem.run_map, this, Result.andThen_ok]
  cases vs with
  | nil => simp [oneOf]
  | cons v vs => cases vs <;> simp [oneOf]
section
variable {P : Program} {n : Nat} {w0 : World} {Q : Exit → Act → World → Prop} {env : List (Nat × Value)} {L : List Asrt} {fn : Func} {F : Asrt} {Post : Ending → List Asrt → Prop}
theorem kw_retC {e : Exit} (hq : ∀ a w, BP P fn Post F w0 .ret a w → Q e a w) {vs : List Value} (hv : RV ⟨P, n, [], w0⟩ env L fn.results.toList vs) {L' R : List Asrt} (hL : Split L (F :: L') R) (hp : Post (.returned (oneOf vs)) L') : KW ⟨P, n, [], w0⟩ Q e env L := by
  intro a w hh
  have hs : Sat w (L' ++ [F]) := ((hh.sat.perm hL.back).perm List.perm_append_comm).drop
  exact hq a w ⟨hh.defers, _, hv.res hh, L', hp, hs, hh.like⟩
theorem cw_retGC {v : Value} {N R : List Asrt} (hq : ∀ a w, BP P fn (Gives v N) F w0 .ret a w → Q .ret a w) {us : List Value} (hv : RV ⟨P, n, [], w0⟩ env L fn.results.toList us) (hu : oneOf us = v) (hL : Split L (F :: N) R) : CW ⟨P, n, [], w0⟩ .ret Q env L :=
  cw_ret (kw_retC hq hv hL ⟨by rw [hu], rfl⟩)
theorem cw_retEC {X : Type} {p : X → Prop} {v : X → Value} {N : X → List Asrt} {us : List Value} {R : List Asrt} (x : X) (hx : p x) (hq : ∀ a w, BP P fn (GivesE p v N) F w0 .ret a w → Q .ret a w) (hv : RV ⟨P, n, [], w0⟩ env L fn.results.toList us) (hu : oneOf us = v x) (hL : Split L (F :: N x) R) : CW ⟨P, n, [], w0⟩ .ret Q env L :=
  cw_ret (kw_retC hq hv hL ⟨x, hx, by rw [hu], rfl⟩)
theorem cw_retFC {X Y : Type} {p : X → Prop} {v : X → Value} {N : X → List Asrt} {q : Y → Prop} {ch : Y → List PanicEntry} {N' : Y → List Asrt} {us : List Value} {R : List Asrt} (x : X) (hx : p x) (hq : ∀ a w, BP P fn (GivesF p v N q ch N') F w0 .ret a w → Q .ret a w) (hv : RV ⟨P, n, [], w0⟩ env L fn.results.toList us) (hu : oneOf us = v x) (hL : Split L (F :: N x) R) : CW ⟨P, n, [], w0⟩ .ret Q env L :=
  cw_ret (kw_retC hq hv hL (.inl ⟨x, hx, by rw [hu], rfl⟩))
end
end Go.Sl
