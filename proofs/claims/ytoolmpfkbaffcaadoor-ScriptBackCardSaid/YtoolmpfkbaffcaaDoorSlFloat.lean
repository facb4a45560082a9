/- Allocations that float: one that is ready may come up at any time; the walk goes on as if it were pending, and meets it where it is wanted. -/
import Derived.Test.YtoolmpfkbaffcaaDoorSlMix
set_option linter.all false
namespace Go.Sl
/-- an allocation that may have come up or not: its number, its slot, its value by the new block, the new block; what its operands hold -/
structure Pend where
  j : Nat
  d : Nat
  v : Nat → Value
  o : Obj
  e0 : List (Nat × Value)

def ap : List Pend → List Bool → Array Bool → Array Bool
  | p :: Js, true :: S, l => ap Js S (l.setIfInBounds p.j true)
  | _ :: Js, false :: S, l => ap Js S l
  | _, _, l => l
def PX : List Pend → List Bool → List (Nat × Value) → List Asrt → Prop
  | [], [], E, X => E = [] ∧ X = []
  | p :: Js, true :: S, E, X => ∃ b E' X', E = (p.d, p.v b) :: E' ∧ X = pts b p.o :: X' ∧ PX Js S E' X'
  | _ :: Js, false :: S, E, X => PX Js S E X
  | _, _, _, _ => False
def cnt : List Bool → Nat
  | [] => 0
  | true :: S => cnt S
  | false :: S => cnt S + 1
inductive Upd : List Pend → List Bool → List Bool → Pend → Prop
  | here {p Js S} : Upd (p :: Js) (false :: S) (true :: S) p
  | there {p q Js s S S'} (h : Upd Js S S' p) : Upd (q :: Js) (s :: S) (s :: S') p
theorem Upd.mem {Js S S' p} (h : Upd Js S S' p) : p ∈ Js := by
  induction h with
  | here => simp
  | there _ ih => simp [ih]
theorem Upd.cnt {Js S S' p} (h : Upd Js S S' p) : Sl.cnt S = Sl.cnt S' + 1 := by
  induction h with
  | here => simp [Sl.cnt]
  | there h ih => rename_i s _ _; cases s <;> simp [Sl.cnt, ih]
theorem ap_set (Js : List Pend) : ∀ (S : List Bool) (l : Array Bool) (i : Nat), ap Js S (l.setIfInBounds i true) = (ap Js S l).setIfInBounds i true := by
  induction Js with
  | nil => intro S l i; simp [ap]
  | cons p Js ih =>
    intro S l i
    cases S with
    | nil => simp [ap]
    | cons s S =>
      cases s with
      | false => simp only [ap]; exact ih S l i
      | true =>
        simp only [ap]
        rw [← ih S _ i]
        congr 1
        by_cases h : i = p.j
        · subst h; rfl
        · rw [Array.setIfInBounds_comm _ _ h]
theorem Upd.ap {Js S S' p} (h : Upd Js S S' p) : ∀ (l : Array Bool), ap Js S' l = (ap Js S l).setIfInBounds p.j true := by
  induction h with
  | here => intro l; simp only [Sl.ap]; exact ap_set _ _ _ _
  | there h ih => intro l; rename_i s _ _; cases s <;> simp only [Sl.ap] <;> exact ih _

/-- whichever of them have come up -/
def allSub (f : Array Bool → List Nat → Bool) : List Nat → Array Bool → List Nat → Bool
  | [], l, un => f l un
  | j :: js, l, un => allSub f js (l.setIfInBounds j true) un && allSub f js l (j :: un)
theorem allSub_spec {f : Array Bool → List Nat → Bool} : ∀ (Js : List Pend) (S : List Bool) (l : Array Bool) (un : List Nat), S.length = Js.length → allSub f (Js.map (·.j)) l un = true →
    ∃ un', f (ap Js S l) un' = true ∧ ∀ r ∈ un', r ∈ un ∨ ∃ p S', Upd Js S S' p ∧ p.j = r
  | [], [], l, un, _, h => ⟨un, by simpa [allSub, ap] using h, fun r hr => .inl hr⟩
  | p :: Js, true :: S, l, un, hl, h => by
    simp only [List.map_cons, allSub, Bool.and_eq_true] at h
    obtain ⟨un', h1, h2⟩ := allSub_spec Js S _ un (by simpa using hl) h.1
    exact ⟨un', h1, fun r hr => (h2 r hr).imp id fun ⟨q, S', hu, e⟩ => ⟨q, _, hu.there, e⟩⟩
  | p :: Js, false :: S, l, un, hl, h => by
    simp only [List.map_cons, allSub, Bool.and_eq_true] at h
    obtain ⟨un', h1, h2⟩ := allSub_spec Js S _ (p.j :: un) (by simpa using hl) h.2
    refine ⟨un', h1, fun r hr => ?_⟩
    rcases h2 r hr with h3 | ⟨q, S', hu, e⟩
    · rcases List.mem_cons.1 h3 with rfl | h3
      · exact .inr ⟨p, _, Upd.here, rfl⟩
      · exact .inl h3
    · exact .inr ⟨q, _, hu.there, e⟩

inductive PlanF where
  | done
  | soft (i : Nat) (p : PlanF)
  | hard (i : Nat) (p : PlanF)
  | float (j : Nat) (p : PlanF)
  | res (p : PlanF)
def PlanF.len : PlanF → Nat
  | .done => 0
  | .soft _ p | .hard _ p | .float _ p => p.len + 1
  | .res p => p.len
def schedF (ops : Array Oper) : PlanF → List Nat → Array Bool → Bool
  | .done, js, l => js.isEmpty && (Region.ready .any ops l).isEmpty
  | .soft i p, js, l => allSub (fun l _ => Region.free .any ops l i && (Region.ready .any ops l).contains i) js l [] && schedF ops p js (l.setIfInBounds i true)
  | .hard i p, js, l => allSub (fun l un => (Region.ready .any ops l).contains i && (Region.ready .any ops l).all fun r => Nat.beq r i || un.contains r) js l [] && schedF ops p js (l.setIfInBounds i true)
  | .float j p, js, l => schedF ops p (j :: js) l
  | .res p, js, l => match js with
    | j :: js => allSub (fun l un => (Region.ready .any ops l).contains j && (Region.ready .any ops l).all fun r => Nat.beq r j || un.contains r) js l [] && schedF ops p js (l.setIfInBounds j true)
    | [] => false

/-- such an allocation, wherever its operands hold what they should -/
def AL (c : Cx) (ops : Array Oper) (p : Pend) : Prop :=
  ∃ oj, ops[p.j]? = some oj ∧ oj.dst = some p.d ∧ Nat.blt p.d c.n = true ∧ ∀ a w, Holds c p.e0 [] a w → Region.wanted oj (yielded ops a.tmps) = true ∧ (execOp a.eval oj).run c.P w = .ok (.value (p.v w.heap.size)) (w.alloc p.o)
/-- no slot of a pending one is known, nor is it another's -/
def Frs (env : List (Nat × Value)) : List Pend → Bool
  | [] => true
  | p :: Js => (look env p.d).isNone && ((Js.all fun q => !Nat.beq q.d p.d && (look q.e0 p.d).isNone && (look p.e0 q.d).isNone) && ((look p.e0 p.d).isNone && Frs env Js))
/-- the operands of the pending ones are as they were -/
def Opd (env : List (Nat × Value)) (Js : List Pend) : Prop := ∀ p ∈ Js, Sub env p.e0
def Ok (c : Cx) (ops : Array Oper) (env : List (Nat × Value)) (Js : List Pend) : Prop := Frs env Js = true ∧ Opd env Js ∧ ∀ p ∈ Js, AL c ops p

def OMf (c : Cx) (ops : Array Oper) (Q : Exit → Act → World → Prop) (K : List Asrt) (Js : List Pend) (plan : PlanF) (env : List (Nat × Value)) (L : List Asrt) : Prop :=
  ∀ (l0 : Array Bool) (S : List Bool) (E : List (Nat × Value)) (X : List Asrt) (a : Act) (w : World), schedF ops plan (Js.map (·.j)) l0 = true → Region.noSelect ops = true → NoSlots Q → Ok c ops env Js →
    PX Js S E X → Holds c (env ++ E) (L ++ X) a w → Sat w K → wpAnyH c.P .any ops Q (Kept c K) (plan.len + cnt S) (ap Js S l0) a w

theorem look_append {env E : List (Nat × Value)} {t : Nat} : look (env ++ E) t = (look env t).or (look E t) := by
  induction env with
  | nil => simp [look]
  | cons x env ih =>
    obtain ⟨k, v⟩ := x
    simp only [List.cons_append, look]
    cases Nat.beq k t <;> simp [ih]
theorem PX.length : ∀ {Js S E X}, PX Js S E X → S.length = Js.length
  | [], [], _, _, _ => rfl
  | _ :: Js, true :: S, _, _, ⟨_, E, X, _, _, h⟩ => by have := @PX.length Js S E X h; simp [this]
  | _ :: Js, false :: S, E, X, h => by have := @PX.length Js S E X h; simp [this]
theorem PX.keys : ∀ {Js S E X t u}, PX Js S E X → look E t = some u → ∃ p ∈ Js, p.d = t
  | [], [], E, X, t, u, h, hl => by obtain ⟨rfl, _⟩ := h; simp [look] at hl
  | p :: Js, true :: S, E, X, t, u, ⟨b, E', X', e1, _, h⟩, hl => by
    subst e1
    simp only [look] at hl
    cases hb : Nat.beq p.d t with
    | true => exact ⟨p, by simp, Nat.eq_of_beq_eq_true hb⟩
    | false => rw [hb] at hl; obtain ⟨q, hq, e⟩ := PX.keys h hl; exact ⟨q, by simp [hq], e⟩
  | p :: Js, false :: S, E, X, t, u, h, hl => by
    obtain ⟨q, hq, e⟩ := PX.keys (show PX Js S E X from h) hl; exact ⟨q, by simp [hq], e⟩
theorem Frs.env : ∀ {env Js p}, Frs env Js = true → p ∈ Js → look env p.d = none
  | env, q :: Js, p, h, hp => by
    simp only [Frs, Bool.and_eq_true, Option.isNone_iff_eq_none] at h
    rcases List.mem_cons.1 hp with rfl | hp
    · exact h.1
    · exact Frs.env h.2.2.2 hp
/-- one more has come up -/
theorem PX.upd {Js S S' p} (hu : Upd Js S S' p) : ∀ {E X env} (b : Nat), Frs env Js = true → PX Js S E X → ∃ E' X', PX Js S' E' X' ∧ (∀ t u, look E' t = some u → (t = p.d ∧ u = p.v b) ∨ (t ≠ p.d ∧ look E t = some u)) ∧ X'.Perm (pts b p.o :: X) := by
  induction hu with
  | here =>
    rename_i p Js S
    intro E X env b hf h
    simp only [Frs, Bool.and_eq_true, List.all_eq_true] at hf
    refine ⟨(p.d, p.v b) :: E, pts b p.o :: X, ⟨b, E, X, rfl, rfl, h⟩, fun t u hl => ?_, List.Perm.refl _⟩
    simp only [look] at hl
    cases hb : Nat.beq p.d t with
    | true => rw [hb] at hl; exact .inl ⟨(Nat.eq_of_beq_eq_true hb).symm, (Option.some.inj hl).symm⟩
    | false => rw [hb] at hl; exact .inr ⟨fun e => by subst e; simp at hb, hl⟩
  | there hu ih =>
    rename_i p q Js s S S'
    intro E X env b hf h
    have hf' := hf
    simp only [Frs, Bool.and_eq_true] at hf
    cases s with
    | false => exact ih b hf.2.2.2 (show PX Js S E X from h)
    | true =>
      obtain ⟨b', E1, X1, rfl, rfl, h1⟩ := h
      obtain ⟨E', X', h2, h3, h4⟩ := ih b hf.2.2.2 h1
      have hne : q.d ≠ p.d := by
        have hp : p ∈ Js := hu.mem
        have := List.all_eq_true.1 hf.2.1 p hp
        simp only [Bool.and_eq_true, Bool.not_eq_true'] at this
        intro e; rw [e] at this; simp at this
      refine ⟨(q.d, q.v b') :: E', pts b' q.o :: X', ⟨b', E', X', rfl, rfl, h2⟩, fun t u hl => ?_, (List.Perm.cons _ h4).trans (List.Perm.swap _ _ _)⟩
      simp only [look] at hl ⊢
      cases hb : Nat.beq q.d t with
      | true =>
        rw [hb] at hl
        have : q.d = t := Nat.eq_of_beq_eq_true hb
        exact .inr ⟨by rw [← this]; exact hne, hl⟩
      | false => rw [hb] at hl; exact h3 t u hl
section
variable {c : Cx} {ops : Array Oper} {Q : Exit → Act → World → Prop} {K : List Asrt} {plan : PlanF} {env : List (Nat × Value)} {L : List Asrt} {Js : List Pend}
  {d : Tmp} {op : Op} {ty : TypeId} {pos : String} {af : Array Edge} {i : Nat}

/-- a pending one comes up now -/
theorem pend_step {S S' : List Bool} {p : Pend} {E : List (Nat × Value)} {X : List Asrt} {a : Act} {w : World} {N : Act → World → Prop} (hok : Ok c ops env Js) (hu : Upd Js S S' p) (hpx : PX Js S E X) (hh : Holds c (env ++ E) (L ++ X) a w) (hK : Sat w K)
    (h : ∀ E' X' a' w', PX Js S' E' X' → Holds c (env ++ E') (L ++ X') a' w' → Sat w' K → N a' w') : wpOp c.P ops Q p.j N a w := by
  obtain ⟨hf, ho, hal⟩ := hok
  have hpm := hu.mem
  obtain ⟨oj, hi, hd, hlt, hrun⟩ := hal p hpm
  have henv : ∀ t v, look env t = some v → look (env ++ E) t = some v := fun t v ht => by rw [look_append, ht]; rfl
  have h0 : Holds c p.e0 [] a w := ⟨hh.size, fun t v ht => hh.slots t v (henv t v ((ho p hpm).le t v ht)), hh.defers, Sat.nil w, hh.like⟩
  obtain ⟨hw, hr⟩ := hrun a w h0
  obtain ⟨E', X', h1, h2, h3⟩ := PX.upd hu (env := env) w.heap.size hf hpx
  unfold wpOp
  simp only [hi, hw, if_true]
  left
  unfold Oper.wp
  rw [hr]
  simp only [Oper.upon, hd]
  have hlt' : p.d < c.n := Nat.blt_eq ▸ hlt
  refine h E' X' _ _ h1 ⟨by simp [Act.put, hh.size], ?_, by rw [put_defers]; exact hh.defers, ?_, hh.like.alloc _⟩ ?_
  · intro t u ht
    rw [look_append] at ht
    have hne : look env p.d = none := Frs.env hf hpm
    cases he : look env t with
    | some u' =>
      rw [he] at ht
      have htp : t ≠ p.d := fun e => by rw [e, hne] at he; cases he
      have : u' = u := by simpa using ht
      subst this
      simp only [Act.put, Array.getElem?_setIfInBounds]
      rw [if_neg (fun e => htp e.symm)]
      exact hh.slots t u' (henv t u' he)
    | none =>
      rw [he] at ht
      simp only [Option.none_or] at ht
      rcases h2 t u ht with ⟨rfl, rfl⟩ | ⟨hne', hE⟩
      · simp [Act.put, hh.size, hlt']
      · simp only [Act.put, Array.getElem?_setIfInBounds]
        rw [if_neg (fun e => hne' e.symm)]
        exact hh.slots t u (by rw [look_append, he, hE]; rfl)
  · have hs := hh.sat.alloc p.o
    exact hs.perm (((List.Perm.append_left L h3).trans List.perm_middle).symm)
  · exact (hK.alloc p.o).tail

theorem omf_nil (h : KW c Q .normal env L) : OMf c ops Q K [] .done env L := by
  intro l0 S E X a w hB _ _ _ hpx hh _
  simp only [schedF, Bool.and_eq_true, List.isEmpty_iff] at hB
  cases S with
  | cons s S => cases s <;> exact hpx.elim
  | nil =>
    obtain ⟨rfl, rfl⟩ := hpx
    simp only [List.append_nil] at hh
    exact wpAnyH_done hB.2 (h a w hh) _

theorem Ok.put {v : Value} (h : Ok c ops env Js) (hd : (Js.all fun p => !Nat.beq p.d d && (look p.e0 d).isNone) = true) : Ok c ops ((d, v) :: env) Js := by
  obtain ⟨hf, ho, ha⟩ := h
  have hd' := List.all_eq_true.1 hd
  refine ⟨?_, fun p hp => ?_, ha⟩
  · clear ho ha hd
    induction Js with
    | nil => rfl
    | cons p Js ih =>
      simp only [Frs, Bool.and_eq_true, Option.isNone_iff_eq_none] at hf ⊢
      refine ⟨?_, hf.2.1, hf.2.2.1, ih hf.2.2.2 (fun q hq => hd' q (by simp [hq]))⟩
      have := hd' p (by simp)
      simp only [Bool.and_eq_true, Bool.not_eq_true'] at this
      have hne : Nat.beq d p.d = false := by
        cases hb : Nat.beq d p.d with
        | false => rfl
        | true => have e := Nat.eq_of_beq_eq_true hb; rw [e] at this; simp at this
      simp only [look, hne]; exact hf.1
  · have hn := hd' p hp
    simp only [Bool.and_eq_true, Option.isNone_iff_eq_none] at hn
    have hs := ho p hp
    have hl : ∀ e0 : List (Nat × Value), Sub env e0 → look e0 d = none → Sub ((d, v) :: env) e0 := by
      intro e0
      induction e0 with
      | nil => intro _ _; exact Sub.nil
      | cons x e0 ih =>
        obtain ⟨k, u⟩ := x
        intro h1 h2
        simp only [look] at h2
        cases hb : Nat.beq k d with
        | true => rw [hb] at h2; cases h2
        | false =>
          rw [hb] at h2
          refine Sub.cons ?_ (ih h1.2 h2)
          simp only [look]
          cases hb2 : Nat.beq d k with
          | true => have e := Nat.eq_of_beq_eq_true hb2; rw [e] at hb; simp at hb
          | false => exact h1.1
    exact hl p.e0 hs hn.2

theorem omf_soft {o : Oper} {v : Value} (hi : ops[i]? = some o) (hod : o.dst = some d) (hy : ∀ a w, Holds c env K a w → YieldsIf c.P ops (Kept c K) o v a) (h : OMf c ops Q K Js plan ((d, v) :: env) L) (hfr : (Js.all fun p => !Nat.beq p.d d && (look p.e0 d).isNone) = true) (hd : Nat.blt d c.n = true) :
    OMf c ops Q K Js (.soft i plan) env L := by
  intro l0 S E X a w hB hs hQ hok hpx hh hK
  simp only [schedF, Bool.and_eq_true] at hB
  obtain ⟨un, h1, _⟩ := allSub_spec Js S l0 [] (PX.length hpx) hB.1
  simp only [Bool.and_eq_true] at h1
  have hh' : Holds c env K a w := ⟨hh.size, fun t v ht => hh.slots t v (by rw [look_append, ht]; rfl), hh.defers, hK, hh.like⟩
  have e : (PlanF.soft i plan).len + cnt S = (plan.len + cnt S) + 1 := by simp only [PlanF.len]; omega
  rw [e]
  refine wpAnyH_take (v := v) hi hs h1.1 h1.2 (fun ch a w => hQ ch a _ _ w) (hy a w hh') ⟨hK, hh.like⟩ ?_
  rw [hod, ← ap_set]
  exact h _ S E X _ w hB.2 hs hQ (hok.put hfr) hpx (hh.put d v hd) hK
theorem omf_y {v : Value} (hi : ops[i]? = some ⟨some d, op, ty, pos, af, none⟩) (hy : Yields c ⟨some d, op, ty, pos, af, none⟩ env K v) (h : OMf c ops Q K Js plan ((d, v) :: env) L) (hfr : (Js.all fun p => !Nat.beq p.d d && (look p.e0 d).isNone) = true := by rfl) (hd : Nat.blt d c.n = true := by rfl) : OMf c ops Q K Js (.soft i plan) env L :=
  omf_soft hi rfl (fun a _ hh => .inl ⟨rfl, fun w' hk => hy a w' ⟨hh.size, hh.slots, hh.defers, hk.1, hk.2⟩⟩) h hfr hd
theorem omf_yg {v : Value} {gd : Nat × Bool} (hi : ops[i]? = some ⟨some d, op, ty, pos, af, some gd⟩) (hy : Yields c ⟨some d, op, ty, pos, af, some gd⟩ env K v)
    (hw : ∀ a w, Holds c env K a w → Region.wanted ⟨some d, op, ty, pos, af, some gd⟩ (yielded ops a.tmps) = true) (h : OMf c ops Q K Js plan ((d, v) :: env) L) (hfr : (Js.all fun p => !Nat.beq p.d d && (look p.e0 d).isNone) = true := by rfl) (hd : Nat.blt d c.n = true := by rfl) : OMf c ops Q K Js (.soft i plan) env L :=
  omf_soft hi rfl (fun a w hh => .inl ⟨hw a w hh, fun w' hk => hy a w' ⟨hh.size, hh.slots, hh.defers, hk.1, hk.2⟩⟩) h hfr hd
theorem omf_skip {o : Oper} (hi : ops[i]? = some o) (hod : o.dst = some d) (hw : ∀ a w, Holds c env K a w → Region.wanted o (yielded ops a.tmps) = false) (h : OMf c ops Q K Js plan ((d, undef) :: env) L) (hfr : (Js.all fun p => !Nat.beq p.d d && (look p.e0 d).isNone) = true := by rfl) (hd : Nat.blt d c.n = true := by rfl) :
    OMf c ops Q K Js (.soft i plan) env L :=
  omf_soft hi hod (fun a w hh => .inr ⟨hw a w hh, rfl⟩) h hfr hd

/-- behind what was done: the rest, whatever came up of what is pending -/
def KMf (c : Cx) (ops : Array Oper) (Q : Exit → Act → World → Prop) (K : List Asrt) (Js : List Pend) (plan : PlanF) (E : List (Nat × Value)) (F : Asrt) (a : Act) (w : World) : Prop :=
  Kept c K w ∧ ∃ env' L', Holds c (env' ++ E) (L' ++ [F]) a w ∧ Ok c ops env' Js ∧ OMf c ops Q K Js plan env' L'
inductive Tl (E : List (Nat × Value)) : List (Nat × Value) → List (Nat × Value) → Prop
  | nil : Tl E E []
  | cons {x l m} (h : Tl E l m) : Tl E (x :: l) (x :: m)
theorem Tl.eq {E l m} (h : Tl E l m) : l = m ++ E := by
  induction h with
  | nil => rfl
  | cons _ ih => rw [ih]; rfl
theorem omf_next {E env'' : List (Nat × Value)} {F : Asrt} {L'' R : List Asrt} (hE : Tl E env'' env) (hF : Fnd L'' F L) (hK : Split L'' K R) (hok : Ok c ops env Js) (h : OMf c ops Q K Js plan env L) : KW c (Exit.then (KMf c ops Q K Js plan E F) Q) .normal env'' L'' := by
  intro a w hh
  have hs : Sat w K := ((hh.sat.perm hK).perm List.perm_append_comm).drop
  refine ⟨⟨hs, hh.like⟩, env, L, ?_, hok, h⟩
  rw [← hE.eq]
  exact ⟨hh.size, hh.slots, hh.defers, (hF.sat hh.sat).perm (List.perm_append_comm (l₁ := [F]) (l₂ := L)), hh.like⟩
theorem ow_op {o : Oper} {N : Act → World → Prop} {env : List (Nat × Value)} {L : List Asrt} {a : Act} {w : World} (hi : ops[i]? = some o) (h : OW c ops (Exit.then N Q) [o] env L) (hh : Holds c env L a w) : wpOp c.P ops Q i N a w := by
  have hw := h a w hh
  unfold wpOp
  simp only [hi]
  unfold wpList at hw
  split
  · rename_i hwant
    rw [if_pos hwant] at hw
    rcases hw with hw | ⟨ha, hl⟩
    · left
      rw [wp_then] at hw
      exact Oper.wp_mono (fun _ _ h => h) hw
    · exact .inr ⟨ha, hl⟩
  · rename_i hwant
    rw [if_neg hwant] at hw
    exact hw
theorem omf_hard {o : Oper} (hi : ops[i]? = some o) (h : Ok c ops env Js → ∀ E F, OW c ops (Exit.then (KMf c ops Q K Js plan E F) Q) [o] (env ++ E) (F :: L)) : OMf c ops Q K Js (.hard i plan) env L := by
  intro l0
  suffices H : ∀ n S E X a w, cnt S = n → schedF ops (.hard i plan) (Js.map (·.j)) l0 = true → Region.noSelect ops = true → NoSlots Q → Ok c ops env Js → PX Js S E X → Holds c (env ++ E) (L ++ X) a w → Sat w K →
      wpAnyH c.P .any ops Q (Kept c K) ((PlanF.hard i plan).len + cnt S) (ap Js S l0) a w from fun S E X a w => H _ S E X a w rfl
  intro n
  induction n using Nat.strongRecOn with
  | _ n ih =>
    intro S E X a w hn hB hs hQ hok hpx hh hK
    have hB' := hB
    simp only [schedF, Bool.and_eq_true] at hB
    obtain ⟨un, h1, h2⟩ := allSub_spec Js S l0 [] (PX.length hpx) hB.1
    simp only [Bool.and_eq_true] at h1
    have e : (PlanF.hard i plan).len + cnt S = (plan.len + cnt S) + 1 := by simp only [PlanF.len]; omega
    rw [e]
    refine wpAnyH_all (rs := Region.ready .any ops (ap Js S l0)) rfl (fun h0 => by rw [h0] at h1; simp at h1) ?_
    intro r hr
    have h3 := List.all_eq_true.1 h1.2 r hr
    simp only [Bool.or_eq_true] at h3
    rcases h3 with h3 | h3
    · have : r = i := Nat.eq_of_beq_eq_true h3
      subst this
      have hst : Holds c (env ++ E) (star X :: L) a w := ⟨hh.size, hh.slots, hh.defers, sat_star.2 (hh.sat.perm List.perm_append_comm), hh.like⟩
      refine wpOp_mono ?_ (ow_op hi (h hok E (star X)) hst)
      rintro a' w' ⟨hk, env', L', hh', hok', hom⟩
      refine ⟨hk, ?_⟩
      rw [← ap_set]
      refine hom _ S E X a' w' hB.2 hs hQ hok' hpx ⟨hh'.size, hh'.slots, hh'.defers, ?_, hh'.like⟩ hk.1
      have := hh'.sat.perm (List.perm_append_comm (l₁ := L') (l₂ := [star X]))
      exact (sat_star.1 this).perm List.perm_append_comm
    · have h4 := h2 r (by simpa using h3)
      rcases h4 with h4 | ⟨p, S', hu, rfl⟩
      · cases h4
      · refine pend_step hok hu hpx hh hK (fun E' X' a' w' g1 g2 g3 => ⟨⟨g3, g2.like⟩, ?_⟩)
        have hc := hu.cnt
        have := ih (cnt S') (by omega) S' E' X' a' w' rfl hB' hs hQ hok g1 g2 g3
        rw [hu.ap] at this
        have e2 : (PlanF.hard i plan).len + cnt S' = plan.len + cnt S := by simp only [PlanF.len]; omega
        rwa [e2] at this

theorem omf_float {p : Pend} (hal : AL c ops p) (he : Sub env p.e0) (hfr : ((look env p.d).isNone && ((Js.all fun q => !Nat.beq q.d p.d && (look q.e0 p.d).isNone && (look p.e0 q.d).isNone) && (look p.e0 p.d).isNone)) = true) (h : OMf c ops Q K (p :: Js) plan env L) : OMf c ops Q K Js (.float p.j plan) env L := by
  intro l0 S E X a w hB hs hQ hok hpx hh hK
  simp only [Bool.and_eq_true] at hfr
  have hok' : Ok c ops env (p :: Js) := by
    refine ⟨?_, fun q hq => ?_, fun q hq => ?_⟩
    · simp only [Frs, Bool.and_eq_true]
      exact ⟨hfr.1, hfr.2.1, hfr.2.2, hok.1⟩
    · rcases List.mem_cons.1 hq with rfl | hq
      · exact he
      · exact hok.2.1 q hq
    · rcases List.mem_cons.1 hq with rfl | hq
      · exact hal
      · exact hok.2.2 q hq
  have := h l0 (false :: S) E X a w (by simpa [schedF] using hB) hs hQ hok' hpx hh hK
  have e : plan.len + cnt (false :: S) = (PlanF.float p.j plan).len + cnt S := by simp only [PlanF.len, cnt]; omega
  rw [e] at this
  simpa only [ap] using this

theorem omf_res {p : Pend} (h : ∀ b, OMf c ops Q K Js plan ((p.d, p.v b) :: env) (pts b p.o :: L)) : OMf c ops Q K (p :: Js) (.res plan) env L := by
  intro l0
  have base : ∀ S E X a w, schedF ops (.res plan) ((p :: Js).map (·.j)) l0 = true → Region.noSelect ops = true → NoSlots Q → Ok c ops env (p :: Js) → PX (p :: Js) (true :: S) E X → Holds c (env ++ E) (L ++ X) a w → Sat w K →
      wpAnyH c.P .any ops Q (Kept c K) (plan.len + cnt S) (ap Js S (l0.setIfInBounds p.j true)) a w := by
    intro S E X a w hB hs hQ hok hpx hh hK
    obtain ⟨b, E', X', rfl, rfl, hp⟩ := hpx
    simp only [List.map_cons, schedF, Bool.and_eq_true] at hB
    have hf := hok.1
    simp only [Frs, Bool.and_eq_true, Option.isNone_iff_eq_none] at hf
    have hok1 : Ok c ops env Js := ⟨hf.2.2.2, fun q hq => hok.2.1 q (by simp [hq]), fun q hq => hok.2.2 q (by simp [hq])⟩
    have hok2 : Ok c ops ((p.d, p.v b) :: env) Js := hok1.put (by
      refine List.all_eq_true.2 fun q hq => ?_
      have := List.all_eq_true.1 hf.2.1 q hq
      simp only [Bool.and_eq_true] at this ⊢
      exact ⟨this.1.1, this.1.2⟩)
    refine h b _ S E' X' a w hB.2 hs hQ hok2 hp ⟨hh.size, ?_, hh.defers, hh.sat.perm List.perm_middle, hh.like⟩ hK
    intro t u ht
    refine hh.slots t u ?_
    rw [look_append]
    simp only [List.cons_append, look] at ht ⊢
    cases hb : Nat.beq p.d t with
    | true =>
      have e := Nat.eq_of_beq_eq_true hb
      rw [hb] at ht
      rw [← e, hf.1]; simpa using ht
    | false =>
      rw [hb] at ht
      simpa [look_append] using ht
  suffices H : ∀ n S E X a w, cnt S = n → schedF ops (.res plan) ((p :: Js).map (·.j)) l0 = true → Region.noSelect ops = true → NoSlots Q → Ok c ops env (p :: Js) → PX Js S E X → Holds c (env ++ E) (L ++ X) a w → Sat w K →
      wpAnyH c.P .any ops Q (Kept c K) (plan.len + cnt S + 1) (ap Js S l0) a w by
    intro S E X a w hB hs hQ hok hpx hh hK
    cases S with
    | nil => exact hpx.elim
    | cons s S =>
      cases s with
      | true => exact base S E X a w hB hs hQ hok hpx hh hK
      | false => exact H _ S E X a w rfl hB hs hQ hok hpx hh hK
  intro n
  induction n using Nat.strongRecOn with
  | _ n ih =>
    intro S E X a w hn hB hs hQ hok hpx hh hK
    have hB' := hB
    simp only [List.map_cons, schedF, Bool.and_eq_true] at hB
    obtain ⟨un, h1, h2⟩ := allSub_spec Js S l0 [] (PX.length hpx) hB.1
    simp only [Bool.and_eq_true] at h1
    refine wpAnyH_all (rs := Region.ready .any ops (ap Js S l0)) rfl (fun h0 => by rw [h0] at h1; simp at h1) ?_
    intro r hr
    have h3 := List.all_eq_true.1 h1.2 r hr
    simp only [Bool.or_eq_true] at h3
    rcases h3 with h3 | h3
    · have : r = p.j := Nat.eq_of_beq_eq_true h3
      subst this
      refine pend_step (Js := p :: Js) (S := false :: S) hok Upd.here hpx hh hK (fun E' X' a' w' g1 g2 g3 => ⟨⟨g3, g2.like⟩, ?_⟩)
      rw [← ap_set]
      exact base S E' X' a' w' hB' hs hQ hok g1 g2 g3
    · have h4 := h2 r (by simpa using h3)
      rcases h4 with h4 | ⟨q, S', hu, rfl⟩
      · cases h4
      · refine pend_step (Js := p :: Js) (S := false :: S) hok hu.there hpx hh hK (fun E' X' a' w' g1 g2 g3 => ⟨⟨g3, g2.like⟩, ?_⟩)
        have hc := hu.cnt
        have := ih (cnt S') (by omega) S' E' X' a' w' rfl hB' hs hQ hok g1 g2 g3
        rw [hu.ap] at this
        have e2 : plan.len + cnt S' + 1 = plan.len + cnt S := by omega
        rwa [e2] at this

theorem cw_float {id : Nat} {l : List Oper} {R : List Asrt} (plan : PlanF) (K : List Asrt) (hm : c.P.follows .mixedOrders = true)
    (hB : (Region.noSelect l.toArray && (Nat.beq plan.len l.length && schedF l.toArray plan [] (Array.replicate l.length false))) = true) (hQ : NoSlots Q) (hK : Split L K R) (h : OMf c l.toArray Q K [] plan env L) : CW c (.region id l.toArray true) Q env L := by
  intro a w hh
  simp only [Bool.and_eq_true] at hB
  have hh' := hh.drew
  have hs : Sat w.drew K := ((hh'.sat.perm hK).perm List.perm_append_comm).drop
  have h1 := h _ [] [] [] a w.drew hB.2.2 hB.1 hQ ⟨rfl, (fun p hp => by cases hp), fun p hp => by cases hp⟩ ⟨rfl, rfl⟩ (by simpa using hh') hs
  refine wp_region_held (S := Kept c K) hm ?_
  have e : plan.len = l.toArray.size := by simpa using Nat.eq_of_beq_eq_true hB.2.1
  have e2 : Array.replicate plan.len false = Array.replicate l.length false := by rw [Nat.eq_of_beq_eq_true hB.2.1]
  simp only [cnt, Nat.add_zero, ap] at h1
  rw [← e, e2]
  exact h1
end
end Go.Sl
