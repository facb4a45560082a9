/- Regions whose order the tape draws, with more than one thing done: what only computes, or reads what stays, may be taken as soon as it is ready. -/
import Derived.Test.YtoolmpfkbaffcaaDoorSlRegion
import Derived.OrdersHeld
set_option linter.all false
namespace Go.Sl
/-- a panic's way on doesn't hang on the slots -/
def NoSlots (Q : Exit → Act → World → Prop) : Prop := ∀ ch (a : Act) (d : Option Tmp) (v : Value) (w : World), Q (.panic ch) (a.put d v) w → Q (.panic ch) a w
theorem put_defers (a : Act) (d : Option Tmp) (v : Value) : (a.put d v).defers = a.defers := by cases d <;> rfl
theorem NoSlots.then {R : Act → World → Prop} {Q : Exit → Act → World → Prop} (h : NoSlots Q) : NoSlots (Exit.then R Q) := h
theorem NoSlots.inBlock {id : Nat} {Q : Exit → Act → World → Prop} (h : NoSlots Q) : NoSlots (Exit.inBlock id Q) := h
theorem NoSlots.bp {P : Program} {fn : Func} {Post : Ending → List Asrt → Prop} {F : Asrt} {w0 : World} : NoSlots (BP P fn Post F w0) := fun ch a d v w h => by
  obtain ⟨h1, h2⟩ := (h : (a.put d v).defers = [] ∧ _)
  exact ⟨by rw [← put_defers a d v]; exact h1, h2⟩

/-- a plan for the orders: take one that only computes or reads as soon as it is free; else whichever comes up -/
inductive Plan where
  | done
  | soft (i : Nat) (p : Plan)
  | hard (i : Nat) (p : Plan)
  | two (i : Nat) (p : Plan) (j : Nat) (q : Plan)
  | three (i : Nat) (p : Plan) (j : Nat) (q : Plan) (k : Nat) (r : Plan)
  | four (i : Nat) (p : Plan) (j : Nat) (q : Plan) (k : Nat) (r : Plan) (m : Nat) (s : Plan)
def Plan.len : Plan → Nat
  | .done => 0
  | .soft _ p | .hard _ p | .two _ p _ _ | .three _ p _ _ _ _ | .four _ p _ _ _ _ _ _ => p.len + 1
def sched (ops : Array Oper) : Plan → Array Bool → Bool
  | .done, l => (Region.ready .any ops l).isEmpty
  | .soft i p, l => Region.free .any ops l i && ((Region.ready .any ops l).contains i && sched ops p (l.setIfInBounds i true))
  | .hard i p, l => (match Region.ready .any ops l with | [j] => Nat.beq j i | _ => false) && sched ops p (l.setIfInBounds i true)
  | .two i p j q, l => (match Region.ready .any ops l with | [x, y] => Nat.beq x i && Nat.beq y j | _ => false) && (Nat.beq p.len q.len && (sched ops p (l.setIfInBounds i true) && sched ops q (l.setIfInBounds j true)))
  | .three i p j q k r, l => (match Region.ready .any ops l with | [x, y, z] => Nat.beq x i && (Nat.beq y j && Nat.beq z k) | _ => false) &&
      (Nat.beq p.len q.len && (Nat.beq p.len r.len && (sched ops p (l.setIfInBounds i true) && (sched ops q (l.setIfInBounds j true) && sched ops r (l.setIfInBounds k true)))))
  | .four i p j q k r m s, l => (match Region.ready .any ops l with | [x, y, z, u] => Nat.beq x i && (Nat.beq y j && (Nat.beq z k && Nat.beq u m)) | _ => false) &&
      (Nat.beq p.len q.len && (Nat.beq p.len r.len && (Nat.beq p.len s.len && (sched ops p (l.setIfInBounds i true) && (sched ops q (l.setIfInBounds j true) && (sched ops r (l.setIfInBounds k true) && sched ops s (l.setIfInBounds m true)))))))

def Kept (c : Cx) (K : List Asrt) (w : World) : Prop := Sat w K ∧ Like c.w0 w
def OM (c : Cx) (ops : Array Oper) (Q : Exit → Act → World → Prop) (K : List Asrt) (steps : Plan) (env : List (Nat × Value)) (L : List Asrt) : Prop :=
  ∀ (l : Array Bool) (a : Act) (w : World), sched ops steps l = true → Region.noSelect ops = true → NoSlots Q → Holds c env L a w → Sat w K → wpAnyH c.P .any ops Q (Kept c K) steps.len l a w
/-- behind what was done: the rest -/
def KM (c : Cx) (ops : Array Oper) (Q : Exit → Act → World → Prop) (K : List Asrt) (steps : Plan) (a : Act) (w : World) : Prop :=
  Kept c K w ∧ ∀ (l : Array Bool), sched ops steps l = true → Region.noSelect ops = true → NoSlots Q → wpAnyH c.P .any ops Q (Kept c K) steps.len l a w

section
variable {c : Cx} {ops : Array Oper} {Q : Exit → Act → World → Prop} {K : List Asrt} {steps : Plan} {env : List (Nat × Value)} {L : List Asrt}
  {d : Tmp} {op : Op} {ty : TypeId} {pos : String} {af : Array Edge} {i : Nat}

theorem om_nil (h : KW c Q .normal env L) : OM c ops Q K .done env L := by
  intro l a w hB _ _ hh _
  simp only [sched, List.isEmpty_iff] at hB
  exact wpAnyH_done hB (h a w hh) _

theorem om_soft {o : Oper} {v : Value} (hi : ops[i]? = some o) (hod : o.dst = some d) (hy : ∀ a w, Holds c env K a w → YieldsIf c.P ops (Kept c K) o v a) (h : OM c ops Q K steps ((d, v) :: env) L) (hd : Nat.blt d c.n = true) :
    OM c ops Q K (.soft i steps) env L := by
  intro l a w hB hs hQ hh hK
  simp only [sched, Bool.and_eq_true] at hB
  have hh' : Holds c env K a w := ⟨hh.size, hh.slots, hh.defers, hK, hh.like⟩
  refine wpAnyH_take (v := v) hi hs hB.1 hB.2.1 (fun ch a w => hQ ch a _ _ w) (hy a w hh') ⟨hK, hh.like⟩ ?_
  rw [hod]
  exact h _ _ w hB.2.2 hs hQ (hh.put d v hd) hK
theorem om_y {v : Value} (hi : ops[i]? = some ⟨some d, op, ty, pos, af, none⟩) (hy : Yields c ⟨some d, op, ty, pos, af, none⟩ env K v) (h : OM c ops Q K steps ((d, v) :: env) L) (hd : Nat.blt d c.n = true := by rfl) : OM c ops Q K (.soft i steps) env L :=
  om_soft hi rfl (fun a _ hh => .inl ⟨rfl, fun w' hk => hy a w' ⟨hh.size, hh.slots, hh.defers, hk.1, hk.2⟩⟩) h hd
theorem om_yg {v : Value} {gd : Nat × Bool} (hi : ops[i]? = some ⟨some d, op, ty, pos, af, some gd⟩) (hy : Yields c ⟨some d, op, ty, pos, af, some gd⟩ env K v)
    (hw : ∀ a w, Holds c env K a w → Region.wanted ⟨some d, op, ty, pos, af, some gd⟩ (yielded ops a.tmps) = true) (h : OM c ops Q K steps ((d, v) :: env) L) (hd : Nat.blt d c.n = true := by rfl) : OM c ops Q K (.soft i steps) env L :=
  om_soft hi rfl (fun a w hh => .inl ⟨hw a w hh, fun w' hk => hy a w' ⟨hh.size, hh.slots, hh.defers, hk.1, hk.2⟩⟩) h hd
theorem om_skip {o : Oper} (hi : ops[i]? = some o) (hod : o.dst = some d) (hw : ∀ a w, Holds c env K a w → Region.wanted o (yielded ops a.tmps) = false) (h : OM c ops Q K steps ((d, undef) :: env) L) (hd : Nat.blt d c.n = true := by rfl) :
    OM c ops Q K (.soft i steps) env L :=
  om_soft hi hod (fun a w hh => .inr ⟨hw a w hh, rfl⟩) h hd

theorem wp_then (P : Program) (o : Oper) (a : Act) (w : World) (N X : Act → World → Prop) : o.wp P a w N (Exit.then X Q) = o.wp P a w N Q := by
  unfold Oper.wp Oper.upon
  split <;> rfl
/-- one of those that may come up -/
theorem om_op {o : Oper} {l : Array Bool} {a : Act} {w : World} (hi : ops[i]? = some o) (h : OW c ops (Exit.then (KM c ops Q K steps) Q) [o] env L) (h2 : sched ops steps (l.setIfInBounds i true) = true) (hs : Region.noSelect ops = true) (hQ : NoSlots Q) (hh : Holds c env L a w) :
    wpOp c.P ops Q i (fun a' w' => Kept c K w' ∧ wpAnyH c.P .any ops Q (Kept c K) steps.len (l.setIfInBounds i true) a' w') a w := by
  have hw := h a w hh
  unfold wpOp
  simp only [hi]
  unfold wpList at hw
  have hconv : ∀ a' w', wpList c.P ops (Exit.then (KM c ops Q K steps) Q) [] a' w' → Kept c K w' ∧ wpAnyH c.P .any ops Q (Kept c K) steps.len (l.setIfInBounds i true) a' w' := by
    intro a' w' hx
    have hx' : KM c ops Q K steps a' w' := hx
    exact ⟨hx'.1, hx'.2 _ h2 hs hQ⟩
  split
  · rename_i hwant
    rw [if_pos hwant] at hw
    rcases hw with hw | ⟨ha, hl⟩
    · left
      rw [wp_then] at hw
      exact Oper.wp_mono hconv hw
    · exact .inr ⟨ha, hl⟩
  · rename_i hwant
    rw [if_neg hwant] at hw
    exact hconv _ _ hw
/-- one that does something: nothing else may come up -/
theorem om_h {o : Oper} (hi : ops[i]? = some o) (h : OW c ops (Exit.then (KM c ops Q K steps) Q) [o] env L) : OM c ops Q K (.hard i steps) env L := by
  intro l a w hB hs hQ hh hK
  simp only [sched, Bool.and_eq_true] at hB
  obtain ⟨h1, h2⟩ := hB
  split at h1
  · rename_i j hr
    have : j = i := Nat.eq_of_beq_eq_true h1
    subst this
    refine wpAnyH_all hr (by simp) ?_
    intro k hk
    simp only [List.mem_singleton] at hk
    subst hk
    exact om_op hi h h2 hs hQ hh
  · cases h1
theorem om_two {p q : Plan} {j : Nat} {o o' : Oper} (hi : ops[i]? = some o) (hj : ops[j]? = some o') (h : OW c ops (Exit.then (KM c ops Q K p) Q) [o] env L) (h' : OW c ops (Exit.then (KM c ops Q K q) Q) [o'] env L) : OM c ops Q K (.two i p j q) env L := by
  intro l a w hB hs hQ hh hK
  simp only [sched, Bool.and_eq_true] at hB
  obtain ⟨h1, hl, h2, h3⟩ := hB
  have hl := Nat.eq_of_beq_eq_true hl
  split at h1
  · rename_i x y hr
    simp only [Bool.and_eq_true] at h1
    have e1 := Nat.eq_of_beq_eq_true h1.1
    have e2 := Nat.eq_of_beq_eq_true h1.2
    subst e1; subst e2
    refine wpAnyH_all hr (by simp) ?_
    intro k hk
    simp only [List.mem_cons, List.not_mem_nil, or_false] at hk
    rcases hk with rfl | rfl
    · exact om_op hi h h2 hs hQ hh
    · rw [hl]; exact om_op hj h' h3 hs hQ hh
  · cases h1
theorem om_three {p q r : Plan} {j k : Nat} {o o' o'' : Oper} (hi : ops[i]? = some o) (hj : ops[j]? = some o') (hk' : ops[k]? = some o'') (h : OW c ops (Exit.then (KM c ops Q K p) Q) [o] env L) (h' : OW c ops (Exit.then (KM c ops Q K q) Q) [o'] env L)
    (h'' : OW c ops (Exit.then (KM c ops Q K r) Q) [o''] env L) : OM c ops Q K (.three i p j q k r) env L := by
  intro l a w hB hs hQ hh hK
  simp only [sched, Bool.and_eq_true] at hB
  obtain ⟨h1, hl, hl2, h2, h3, h4⟩ := hB
  have hl := Nat.eq_of_beq_eq_true hl
  have hl2 := Nat.eq_of_beq_eq_true hl2
  split at h1
  · rename_i x y z hr
    simp only [Bool.and_eq_true] at h1
    have e1 := Nat.eq_of_beq_eq_true h1.1
    have e2 := Nat.eq_of_beq_eq_true h1.2.1
    have e3 := Nat.eq_of_beq_eq_true h1.2.2
    subst e1; subst e2; subst e3
    refine wpAnyH_all hr (by simp) ?_
    intro k hk
    simp only [List.mem_cons, List.not_mem_nil, or_false] at hk
    rcases hk with rfl | rfl | rfl
    · exact om_op hi h h2 hs hQ hh
    · rw [hl]; exact om_op hj h' h3 hs hQ hh
    · rw [hl2]; exact om_op hk' h'' h4 hs hQ hh
  · cases h1
theorem om_four {p q r s : Plan} {j k m : Nat} {o o' o'' o3 : Oper} (hi : ops[i]? = some o) (hj : ops[j]? = some o') (hk' : ops[k]? = some o'') (hm : ops[m]? = some o3) (h : OW c ops (Exit.then (KM c ops Q K p) Q) [o] env L) (h' : OW c ops (Exit.then (KM c ops Q K q) Q) [o'] env L)
    (h'' : OW c ops (Exit.then (KM c ops Q K r) Q) [o''] env L) (h3' : OW c ops (Exit.then (KM c ops Q K s) Q) [o3] env L) : OM c ops Q K (.four i p j q k r m s) env L := by
  intro l a w hB hs hQ hh hK
  simp only [sched, Bool.and_eq_true] at hB
  obtain ⟨h1, hl, hl2, hl3, h2, h3, h4, h5⟩ := hB
  have hl := Nat.eq_of_beq_eq_true hl
  have hl2 := Nat.eq_of_beq_eq_true hl2
  have hl3 := Nat.eq_of_beq_eq_true hl3
  split at h1
  · rename_i x y z u hr
    simp only [Bool.and_eq_true] at h1
    have e1 := Nat.eq_of_beq_eq_true h1.1
    have e2 := Nat.eq_of_beq_eq_true h1.2.1
    have e3 := Nat.eq_of_beq_eq_true h1.2.2.1
    have e4 := Nat.eq_of_beq_eq_true h1.2.2.2
    subst e1; subst e2; subst e3; subst e4
    refine wpAnyH_all hr (by simp) ?_
    intro k hk
    simp only [List.mem_cons, List.not_mem_nil, or_false] at hk
    rcases hk with rfl | rfl | rfl | rfl
    · exact om_op hi h h2 hs hQ hh
    · rw [hl]; exact om_op hj h' h3 hs hQ hh
    · rw [hl2]; exact om_op hk' h'' h4 hs hQ hh
    · rw [hl3]; exact om_op hm h3' h5 hs hQ hh
  · cases h1
theorem om_next {R : List Asrt} (hK : Split L K R) (h : OM c ops Q K steps env L) : KW c (Exit.then (KM c ops Q K steps) Q) .normal env L := by
  intro a w hh
  have hs : Sat w K := ((hh.sat.perm hK).perm List.perm_append_comm).drop
  exact ⟨⟨hs, hh.like⟩, fun l hB hn hQ => h l a w hB hn hQ hh hs⟩

theorem cw_mix {id : Nat} {l : List Oper} {R : List Asrt} (steps : Plan) (K : List Asrt) (hm : c.P.follows .mixedOrders = true)
    (hB : (Region.noSelect l.toArray && (Nat.beq steps.len l.length && sched l.toArray steps (Array.replicate l.length false))) = true) (hQ : NoSlots Q) (hK : Split L K R) (h : OM c l.toArray Q K steps env L) : CW c (.region id l.toArray true) Q env L := by
  intro a w hh
  simp only [Bool.and_eq_true] at hB
  have hh' := hh.drew
  have hs : Sat w.drew K := ((hh'.sat.perm hK).perm List.perm_append_comm).drop
  have h1 := h _ a w.drew hB.2.2 hB.1 hQ hh' hs
  refine wp_region_held (S := Kept c K) hm ?_
  have e : steps.len = l.toArray.size := by simpa using Nat.eq_of_beq_eq_true hB.2.1
  rw [← e]
  have e2 : Array.replicate steps.len false = Array.replicate l.length false := by rw [Nat.eq_of_beq_eq_true hB.2.1]
  rw [e2]
  exact h1
end
end Go.Sl
