/- Part of the proof; no statement of its own: SlBase, SlOps, SlOps2. -/
import Derived.Laws.World
import Derived.Laws.AppendOwn
import Derived.Tactics
import Derived.IntWalk
import Derived.BigFrame
set_option linter.all false
section
namespace Go.Sl
abbrev Piece := List (Nat × Obj)
abbrev Asrt := Piece → Prop
def pts (b : Nat) (o : Obj) : Asrt := fun l => l = [(b, o)]
def all : List Asrt → Piece → Prop
  | [], l => l = []
  | A :: L, l => ∃ l1 l2, l = l1 ++ l2 ∧ A l1 ∧ all L l2
def star (L : List Asrt) : Asrt := all L
def ex {α : Type} (A : α → Asrt) : Asrt := fun l => ∃ x, A x l
def fact (p : Prop) : Asrt := fun l => p ∧ l = []
def Sat (w : World) (L : List Asrt) : Prop :=
  ∃ l : Piece, all L l ∧ (l.map (·.1)).Nodup ∧ ∀ b o, (b, o) ∈ l → w.heap[b]? = some o
theorem all_append {L M : List Asrt} {l : Piece} : all (L ++ M) l ↔ ∃ l1 l2, l = l1 ++ l2 ∧ all L l1 ∧ all M l2 := by
  induction L generalizing l with
  | nil =>
    constructor
    · intro h; exact ⟨[], l, rfl, rfl, h⟩
    · rintro ⟨_, _, rfl, rfl, h⟩; exact h
  | cons A L ih =>
    simp only [List.cons_append, all, ih]
    constructor
    · rintro ⟨l1, l2, rfl, h1, l3, l4, rfl, h3, h4⟩
      exact ⟨l1 ++ l3, l4, by simp, ⟨l1, l3, rfl, h1, h3⟩, h4⟩
    · rintro ⟨l1, l2, rfl, ⟨l3, l4, rfl, h3, h4⟩, h2⟩
      exact ⟨l3, l4 ++ l2, by simp, h3, l4, l2, rfl, h4, h2⟩
theorem all_perm {L M : List Asrt} (h : L.Perm M) : ∀ {l : Piece}, all L l → ∃ m, all M m ∧ l.Perm m := by
  induction h with
  | nil => intro l hl; exact ⟨l, hl, List.Perm.refl _⟩
  | cons A _ ih =>
    rintro l ⟨l1, l2, rfl, h1, h2⟩
    obtain ⟨m, hm, hp⟩ := ih h2
    exact ⟨l1 ++ m, ⟨l1, m, rfl, h1, hm⟩, List.Perm.append_left l1 hp⟩
  | swap A B L =>
    rintro l ⟨l1, l2, rfl, h1, l3, l4, rfl, h3, h4⟩
    refine ⟨l3 ++ (l1 ++ l4), ⟨l3, _, rfl, h3, l1, l4, rfl, h1, h4⟩, ?_⟩
    rw [← List.append_assoc, ← List.append_assoc]
    exact List.Perm.append_right l4 List.perm_append_comm
  | trans _ _ ih1 ih2 =>
    intro l hl
    obtain ⟨m, hm, hp⟩ := ih1 hl
    obtain ⟨n, hn, hq⟩ := ih2 hm
    exact ⟨n, hn, hp.trans hq⟩
theorem Sat.perm {w : World} {L M : List Asrt} (h : Sat w L) (hp : L.Perm M) : Sat w M := by
  obtain ⟨l, h1, h2, h3⟩ := h
  obtain ⟨m, hm, hq⟩ := all_perm hp h1
  exact ⟨m, hm, (hq.map _).nodup_iff.1 h2, fun b o hb => h3 b o (hq.mem_iff.2 hb)⟩
theorem Sat.tail {w : World} {A : Asrt} {L : List Asrt} (h : Sat w (A :: L)) : Sat w L := by
  obtain ⟨l, ⟨l1, l2, rfl, h1, h2⟩, hn, hh⟩ := h
  refine ⟨l2, h2, ?_, fun b o hb => hh b o (List.mem_append_right _ hb)⟩
  rw [List.map_append] at hn
  exact (List.nodup_append.1 hn).2.1
theorem Sat.drop {w : World} {L M : List Asrt} (h : Sat w (L ++ M)) : Sat w M := by
  induction L with
  | nil => exact h
  | cons A L ih => exact ih h.tail
theorem Sat.mono_head {w : World} {A B : Asrt} {L : List Asrt} (h : Sat w (A :: L)) (hab : ∀ l, A l → B l) : Sat w (B :: L) := by
  obtain ⟨l, ⟨l1, l2, rfl, h1, h2⟩, hn, hh⟩ := h
  exact ⟨l1 ++ l2, ⟨l1, l2, rfl, hab _ h1, h2⟩, hn, hh⟩
theorem sat_ex {w : World} {α : Type} {A : α → Asrt} {L : List Asrt} : Sat w (ex A :: L) ↔ ∃ x, Sat w (A x :: L) := by
  constructor
  · rintro ⟨l, ⟨l1, l2, rfl, ⟨x, h1⟩, h2⟩, hn, hh⟩
    exact ⟨x, l1 ++ l2, ⟨l1, l2, rfl, h1, h2⟩, hn, hh⟩
  · rintro ⟨x, l, ⟨l1, l2, rfl, h1, h2⟩, hn, hh⟩
    exact ⟨l1 ++ l2, ⟨l1, l2, rfl, ⟨x, h1⟩, h2⟩, hn, hh⟩
theorem sat_fact {w : World} {p : Prop} {L : List Asrt} : Sat w (fact p :: L) ↔ p ∧ Sat w L := by
  constructor
  · rintro ⟨l, ⟨l1, l2, rfl, ⟨hp, rfl⟩, h2⟩, hn, hh⟩
    exact ⟨hp, l2, h2, hn, hh⟩
  · rintro ⟨hp, l, h2, hn, hh⟩
    exact ⟨l, ⟨[], l, rfl, ⟨hp, rfl⟩, h2⟩, hn, hh⟩
theorem sat_star {w : World} {M L : List Asrt} : Sat w (star M :: L) ↔ Sat w (M ++ L) := by
  constructor
  · rintro ⟨l, ⟨l1, l2, rfl, h1, h2⟩, hn, hh⟩
    exact ⟨l1 ++ l2, all_append.2 ⟨l1, l2, rfl, h1, h2⟩, hn, hh⟩
  · rintro ⟨l, h, hn, hh⟩
    obtain ⟨l1, l2, rfl, h1, h2⟩ := all_append.1 h
    exact ⟨l1 ++ l2, ⟨l1, l2, rfl, h1, h2⟩, hn, hh⟩
theorem Sat.pts {w : World} {b : Nat} {o : Obj} {L : List Asrt} (h : Sat w (pts b o :: L)) : w.heap[b]? = some o := by
  obtain ⟨l, ⟨l1, l2, rfl, rfl, h2⟩, hn, hh⟩ := h
  exact hh b o (by simp)
theorem Sat.nil (w : World) : Sat w [] := ⟨[], rfl, by simp, by simp⟩
structure Like (w w' : World) : Prop where
  os : w'.os = w.os
  tape : w'.tape = w.tape
  output : w'.output = w.output
theorem Like.refl (w : World) : Like w w := ⟨rfl, rfl, rfl⟩
theorem Like.trans {a b c : World} (h : Like a b) (k : Like b c) : Like a c := ⟨k.os.trans h.os, k.tape.trans h.tape, k.output.trans h.output⟩
theorem Like.drew {a b : World} (h : Like a b) : Like a b.drew := h.trans ⟨rfl, rfl, rfl⟩
theorem Like.alloc {a b : World} (h : Like a b) (o : Obj) : Like a (b.alloc o) := h.trans ⟨rfl, rfl, rfl⟩
def put (w : World) (b : Nat) (o : Obj) : World := { w with heap := w.heap.setIfInBounds b o }
theorem Like.put {a b : World} (h : Like a b) (k : Nat) (o : Obj) : Like a (Sl.put b k o) := h.trans ⟨rfl, rfl, rfl⟩
theorem heap_lt {w : World} {b : Nat} {o : Obj} (h : w.heap[b]? = some o) : b < w.heap.size := by
  rcases Nat.lt_or_ge b w.heap.size with h' | h'
  · exact h'
  · rw [Array.getElem?_eq_none h'] at h; cases h
theorem Sat.put {w : World} {b : Nat} {o o' : Obj} {L : List Asrt} (h : Sat w (Sl.pts b o :: L)) : Sat (Sl.put w b o') (Sl.pts b o' :: L) := by
  have hb := heap_lt h.pts
  obtain ⟨l, ⟨l1, l2, rfl, rfl, h2⟩, hn, hh⟩ := h
  simp only [List.cons_append, List.nil_append, List.map_cons, List.nodup_cons] at hn
  refine ⟨(b, o') :: l2, ⟨[(b, o')], l2, rfl, rfl, h2⟩, by simpa using hn, ?_⟩
  intro k x hk
  rcases List.mem_cons.1 hk with e | hk
  · simp only [Prod.mk.injEq] at e
    obtain ⟨rfl, rfl⟩ := e
    simp [Sl.put, hb]
  · have hne : k ≠ b := fun e => hn.1 (List.mem_map.2 ⟨(k, x), hk, by simp [e]⟩)
    have := hh k x (List.mem_append_right _ hk)
    simp only [Sl.put, Array.getElem?_setIfInBounds]
    rw [if_neg (Ne.symm hne)]
    exact this
theorem Sat.alloc {w : World} {L : List Asrt} (h : Sat w L) (o : Obj) : Sat (w.alloc o) (Sl.pts w.heap.size o :: L) := by
  obtain ⟨l, h1, hn, hh⟩ := h
  have hlt : ∀ b x, (b, x) ∈ l → b < w.heap.size := fun b x hb => heap_lt (hh b x hb)
  refine ⟨(w.heap.size, o) :: l, ⟨[(w.heap.size, o)], l, rfl, rfl, h1⟩, ?_, ?_⟩
  · simp only [List.map_cons, List.nodup_cons]
    refine ⟨?_, hn⟩
    rintro hm
    obtain ⟨⟨k, x⟩, hk, e⟩ := List.mem_map.1 hm
    have := hlt k x hk
    simp at e; omega
  · intro k x hk
    rcases List.mem_cons.1 hk with e | hk
    · simp only [Prod.mk.injEq] at e
      obtain ⟨rfl, rfl⟩ := e
      show (w.heap.push _)[w.heap.size]? = some _
      simp
    · have := hlt k x hk
      show (w.heap.push o)[k]? = some x
      rw [Array.getElem?_push, if_neg (by omega)]
      exact hh k x hk
theorem Sat.heap {w w' : World} {L : List Asrt} (h : Sat w L) (e : w'.heap = w.heap) : Sat w' L := by
  obtain ⟨l, h1, hn, hh⟩ := h
  exact ⟨l, h1, hn, fun b o hb => by rw [e]; exact hh b o hb⟩
theorem Sat.drew {w : World} {L : List Asrt} (h : Sat w L) : Sat w.drew L := h.heap rfl
def whole (w : World) : Asrt := fun l => l = (List.range w.heap.size).map fun b => (b, w.heap[b]!)
theorem sat_whole (w : World) : Sat w [whole w] := by
  refine ⟨(List.range w.heap.size).map fun b => (b, w.heap[b]!), ⟨_, [], by simp, rfl, rfl⟩, ?_, ?_⟩
  · simp only [List.map_map]
    have : ((fun x : Nat × Obj => x.1) ∘ fun b => (b, w.heap[b]!)) = id := rfl
    rw [this, List.map_id]
    exact List.nodup_range
  · intro b o hb
    obtain ⟨k, hk, e⟩ := List.mem_map.1 hb
    simp only [Prod.mk.injEq] at e
    obtain ⟨rfl, rfl⟩ := e
    have := List.mem_range.1 hk
    simp [this]
theorem Sat.whole_block {w w' : World} {L : List Asrt} (h : Sat w' (whole w :: L)) (k : Nat) (hk : k < w.heap.size) : w'.heap[k]? = w.heap[k]? := by
  obtain ⟨l, ⟨l1, l2, rfl, rfl, h2⟩, hn, hh⟩ := h
  have := hh k (w.heap[k]!) (List.mem_append_left _ (List.mem_map.2 ⟨k, List.mem_range.2 hk, rfl⟩))
  rw [this]; simp [hk]
end Go.Sl
end
section
namespace Go.Sl
def look : List (Nat × Value) → Nat → Option Value
  | [], _ => none
  | (k, v) :: e, t => match Nat.beq k t with | true => some v | false => look e t
def nth {α : Type} : List α → Nat → Option α
  | [], _ => none
  | x :: _, 0 => some x
  | _ :: l, n + 1 => nth l n
theorem nth_eq {α : Type} : ∀ (l : List α) (n : Nat), nth l n = l[n]?
  | [], n => by simp [nth]
  | x :: l, 0 => by simp [nth]
  | x :: l, n + 1 => by simp [nth, nth_eq l n]
structure Cx where
  P : Program
  n : Nat
  ds : List Deferred
  w0 : World
structure Holds (c : Cx) (env : List (Nat × Value)) (L : List Asrt) (a : Act) (w : World) : Prop where
  size : a.tmps.size = c.n
  slots : ∀ t v, look env t = some v → a.tmps[t]? = some v
  defers : a.defers = c.ds
  sat : Sat w L
  like : Like c.w0 w
def evo (env : List (Nat × Value)) : Operand → Option Value
  | .tmp t => look env t
  | .const v => some v
  | .global g => some (.pointer (some ⟨g, 0, none⟩))
  | .func f => some (.func (.func f) #[] #[])
theorem Holds.eval {c : Cx} {env L a w} (h : Holds c env L a w) {x : Operand} {v : Value} (hx : evo env x = some v) : a.eval x = v := by
  cases x with
  | tmp t => have := h.slots t v hx; simp [Act.eval, this]
  | const u => simpa [evo, Act.eval] using hx
  | global g => simpa [evo, Act.eval] using hx
  | func f => simpa [evo, Act.eval] using hx
theorem Holds.put {c : Cx} {env L a w} (h : Holds c env L a w) (d : Nat) (v : Value) (hd : Nat.blt d c.n = true) : Holds c ((d, v) :: env) L (a.put (some d) v) w := by
  have hd' : d < c.n := Nat.blt_eq ▸ hd
  refine ⟨by simp [Act.put, h.size], ?_, h.defers, h.sat, h.like⟩
  intro t u ht
  simp only [look] at ht
  cases hb : Nat.beq d t with
  | true =>
    rw [hb] at ht
    have : d = t := Nat.eq_of_beq_eq_true hb
    subst this
    simp only [Option.some.injEq] at ht
    subst ht
    simp [Act.put, h.size, hd']
  | false =>
    rw [hb] at ht
    have hne : d ≠ t := Nat.ne_of_beq_eq_false hb
    simp only [Act.put, Array.getElem?_setIfInBounds]
    rw [if_neg hne]
    exact h.slots t u ht
theorem Holds.none {c : Cx} {env L a w} (h : Holds c env L a w) (v : Value) : Holds c env L (a.put none v) w := h
theorem Holds.drew {c : Cx} {env L a w} (h : Holds c env L a w) : Holds c env L a w.drew := ⟨h.size, h.slots, h.defers, h.sat.drew, h.like.drew⟩
def Yields (c : Cx) (o : Oper) (env : List (Nat × Value)) (L : List Asrt) (v : Value) : Prop :=
  ∀ a w, Holds c env L a w → (execOp a.eval o).run c.P w = .ok (.value v) w
def Fnd (L : List Asrt) (A : Asrt) (M : List Asrt) : Prop := L.Perm (A :: M)
theorem Fnd.here {A : Asrt} {L : List Asrt} : Fnd (A :: L) A L := List.Perm.refl _
theorem Fnd.there {A B : Asrt} {L M : List Asrt} (h : Fnd L A M) : Fnd (B :: L) A (B :: M) := (List.Perm.cons B h).trans (List.Perm.swap A B M)
theorem Fnd.sat {L M : List Asrt} {A : Asrt} {w : World} (h : Fnd L A M) (hs : Sat w L) : Sat w (A :: M) := hs.perm h
class FndB (L : List Asrt) (b : Nat) (o : outParam Obj) (M : outParam (List Asrt)) : Prop where
  out : L.Perm (pts b o :: M)
instance (priority := high) FndB.here {b : Nat} {o : Obj} {L : List Asrt} : FndB (pts b o :: L) b o L := ⟨List.Perm.refl _⟩
instance FndB.there {A : Asrt} {b : Nat} {o : Obj} {L M : List Asrt} [h : FndB L b o M] : FndB (A :: L) b o (A :: M) := ⟨(List.Perm.cons A h.out).trans (List.Perm.swap _ A M)⟩
theorem FndB.sat {L M : List Asrt} {b : Nat} {o : Obj} {w : World} (h : FndB L b o M) (hs : Sat w L) : Sat w (pts b o :: M) := hs.perm h.out
def Split (L M F : List Asrt) : Prop := L.Perm (M ++ F)
theorem Split.nil {L : List Asrt} : Split L [] L := List.Perm.refl _
theorem Split.cons {L L1 M F : List Asrt} {A : Asrt} (h : Fnd L A L1) (k : Split L1 M F) : Split L (A :: M) F := h.trans (List.Perm.cons A k)
def tyScalar (P : Program) (t : TypeId) : Bool := match P.underlying t with | some (.struct _) | some (.array _ _) | none => false | some _ => true
def tyAgg (P : Program) (t : TypeId) (n : Nat) : Bool := (match P.underlying t with | some (.struct _) | some (.array _ _) => true | _ => false) && (match P.info? t with | some i => i.size == n | none => false)
def tyField (P : Program) (s f k : Nat) : Bool := match P.underlying s with
  | some (.struct fs) => (match fs[f]? with
    | some fd => fd.offset == k && (match P.info? fd.type with | some i => i.size != 0 | none => false)
    | none => false)
  | _ => false
def tySlice (P : Program) (t e n : Nat) : Bool := (match P.underlying t with | some (.slice x) => x == e | _ => false) && (match P.info? e with | some i => i.size == n | none => false)
def tyArray (P : Program) (t len e n : Nat) : Bool := (match P.underlying t with | some (.array l x) => l == len && x == e | _ => false) && (match P.info? e with | some i => i.size == n | none => false)
def tyInt (P : Program) (t : TypeId) (k : IntKind) : Bool := match P.underlying t with | some (.int j) => j == k | _ => false
def tyString (P : Program) (t : TypeId) : Bool := match P.underlying t with | some .string => true | _ => false
def tyMap (P : Program) (t k e : TypeId) : Bool := match P.underlying t with | some (.map a b) => a == k && b == e | _ => false
theorem run_isAgg_scalar {P : Program} {t : TypeId} (h : tyScalar P t = true) (w : World) : (isAgg t).run P w = .ok false w := by
  unfold tyScalar at h
  unfold isAgg
  cases hu : P.underlying t with
  | none => rw [hu] at h; simp at h
  | some d => rw [hu] at h; rw [Sem.run_bind, run_underlying hu w]; cases d <;> simp_all
theorem run_isAgg_agg {P : Program} {t : TypeId} {n : Nat} (h : tyAgg P t n = true) (w : World) : (isAgg t).run P w = .ok true w := by
  unfold tyAgg at h
  unfold isAgg
  cases hu : P.underlying t with
  | none => rw [hu] at h; simp at h
  | some d => rw [hu] at h; rw [Sem.run_bind, run_underlying hu w]; cases d <;> simp_all
theorem run_sizeOf_agg {P : Program} {t : TypeId} {n : Nat} (h : tyAgg P t n = true) (w : World) : (sizeOf t).run P w = .ok n w := by
  unfold tyAgg at h
  unfold sizeOf typeInfo
  cases hi : P.info? t with
  | none => rw [hi] at h; simp at h
  | some i => rw [hi] at h; simp at h; simp [hi, h.2]
section
variable {c : Cx} {env : List (Nat × Value)} {L : List Asrt} {d : Option Tmp} {ty : TypeId} {pos : String} {af : Array Edge} {g : Option (Nat × Bool)}
theorem y_move {x : Operand} {v : Value} (hx : evo env x = some v) : Yields c ⟨d, .move x, ty, pos, af, g⟩ env L v := by
  intro a w h; simp [execOp, h.eval hx]
theorem y_assign {x : Operand} {v : Value} (hx : evo env x = some v) : Yields c ⟨d, .assign x, ty, pos, af, g⟩ env L v := by
  intro a w h; simp [execOp, h.eval hx]
theorem y_nil {x : Operand} {p : Addr} (hx : evo env x = some (.pointer (some p))) : Yields c ⟨d, .nilCheck x, ty, pos, af, g⟩ env L (.pointer (some p)) := by
  intro a w h; simp [execOp, h.eval hx]
theorem addr_add (b o k : Nat) : (⟨b, o, none⟩ : Addr).add k = ⟨b, o + k, none⟩ := Addr.add_lit b o k
theorem y_fld {s : TypeId} {x : Operand} {f b o k : Nat} (hf : tyField c.P s f k = true) (hx : evo env x = some (.pointer (some ⟨b, o, none⟩))) :
    Yields c ⟨d, .fieldAddr s x f, ty, pos, af, g⟩ env L (.pointer (some ⟨b, o + k, none⟩)) := by
  intro a w h
  unfold tyField at hf
  split at hf
  · rename_i fs hu
    split at hf
    · rename_i fd hfd
      simp only [Bool.and_eq_true, beq_iff_eq] at hf
      obtain ⟨rfl, hs⟩ := hf
      split at hs
      · rename_i i hi
        have hs' : i.size ≠ 0 := by simpa using hs
        simp [execOp, h.eval hx, Instr.fieldAt, run_underlying hu, hfd, Instr.sureAddr, fieldPlace, sizeOf, typeInfo, hi, hs', addr_add]
      · cases hs
    · cases hf
  · cases hf
theorem y_load {x : Operand} {t : TypeId} {b o : Nat} {cs : List Value} {e : TypeId} {fr : Nat × Nat} {M : List Asrt} {v : Value}
    (ht : tyScalar c.P t = true) (hx : evo env x = some (.pointer (some ⟨b, o, none⟩))) [hL : FndB L b (.cells cs.toArray e fr) M] (hv : nth cs o = some v) :
    Yields c ⟨d, .load t x, ty, pos, af, g⟩ env L v := by
  intro a w h
  have hh := (hL.sat h.sat).pts
  have hc : w.cell? ⟨b, o, none⟩ = some v := by rw [nth_eq] at hv; simp [World.cell?, hh, hv]
  simp [execOp, h.eval hx, Instr.loadAt, Instr.sureAddr, loadVar, run_isAgg_scalar ht, hc]
theorem run_loadCells_blk {P : Program} {w : World} {b o n : Nat} {cs : Array Value} {e : TypeId} {fr : Nat × Nat} (hh : w.heap[b]? = some (.cells cs e fr)) (hn : o + n ≤ cs.size) :
    (loadCells ⟨b, o, none⟩ n).run P w = .ok (cs.extract o (o + n)) w := by
  rw [run_loadCells (P := P) w ⟨b, o, none⟩ n (fun j => cs.getD (o + j) undef)]
  · congr 1
    apply Array.ext
    · simp; omega
    · intro i h1 h2
      simp at h1 h2 ⊢
      rw [Array.getElem?_eq_getElem (by omega)]; rfl
  · intro j hj
    rw [addr_add]
    simp [World.cell?, hh]
    rw [Array.getElem?_eq_getElem (by omega)]; rfl
theorem y_loadAgg {x : Operand} {t : TypeId} {b o n : Nat} {cs : Array Value} {e : TypeId} {fr : Nat × Nat} {M : List Asrt} {v : Array Value}
    (ht : tyAgg c.P t n = true) (hx : evo env x = some (.pointer (some ⟨b, o, none⟩))) [hL : FndB L b (.cells cs e fr) M] (hn : o + n ≤ cs.size) (hv : cs.extract o (o + n) = v) :
    Yields c ⟨d, .load t x, ty, pos, af, g⟩ env L (.agg v) := by
  intro a w h
  have hh := (hL.sat h.sat).pts
  subst hv
  simp [execOp, h.eval hx, Instr.loadAt, Instr.sureAddr, loadVar, run_isAgg_agg ht, run_sizeOf_agg ht, run_loadCells_blk hh hn]
theorem y_add {x y : Operand} {t yt : TypeId} {k : IntKind} {m n : Int} (hx : evo env x = some (.int k m)) (hy : evo env y = some (.int k n)) :
    Yields c ⟨d, .binOp .add t x y yt, ty, pos, af, g⟩ env L (.int k (k.wrap (m + n))) := by
  intro a w h; simp [execOp, h.eval hx, h.eval hy, eqGuard_add, binOp_add, Op.intArith]
theorem y_sub {x y : Operand} {t yt : TypeId} {k : IntKind} {m n : Int} (hx : evo env x = some (.int k m)) (hy : evo env y = some (.int k n)) :
    Yields c ⟨d, .binOp .sub t x y yt, ty, pos, af, g⟩ env L (.int k (k.wrap (m - n))) := by
  intro a w h; simp [execOp, h.eval hx, h.eval hy, eqGuard_sub, binOp_sub, Op.intArith]
theorem y_mul {x y : Operand} {t yt : TypeId} {k : IntKind} {m n : Int} (hx : evo env x = some (.int k m)) (hy : evo env y = some (.int k n)) :
    Yields c ⟨d, .binOp .mul t x y yt, ty, pos, af, g⟩ env L (.int k (k.wrap (m * n))) := by
  intro a w h; simp [execOp, h.eval hx, h.eval hy, eqGuard_mul, binOp_mul, Op.intArith]
theorem y_addI {x y : Operand} {t yt : TypeId} {m n : Int} (hx : evo env x = some (.int .i64 m)) (hy : evo env y = some (.int .i64 n)) (hb : -9223372036854775808 ≤ m + n ∧ m + n ≤ 9223372036854775807) :
    Yields c ⟨d, .binOp .add t x y yt, ty, pos, af, g⟩ env L (.int .i64 (m + n)) := by
  have := y_add (c := c) (L := L) (d := d) (t := t) (yt := yt) (ty := ty) (pos := pos) (af := af) (g := g) hx hy
  rwa [IntWalk.i64_in _ hb] at this
theorem y_subI {x y : Operand} {t yt : TypeId} {m n : Int} (hx : evo env x = some (.int .i64 m)) (hy : evo env y = some (.int .i64 n)) (hb : -9223372036854775808 ≤ m - n ∧ m - n ≤ 9223372036854775807) :
    Yields c ⟨d, .binOp .sub t x y yt, ty, pos, af, g⟩ env L (.int .i64 (m - n)) := by
  have := y_sub (c := c) (L := L) (d := d) (t := t) (yt := yt) (ty := ty) (pos := pos) (af := af) (g := g) hx hy
  rwa [IntWalk.i64_in _ hb] at this
theorem y_mulI {x y : Operand} {t yt : TypeId} {m n : Int} (hx : evo env x = some (.int .i64 m)) (hy : evo env y = some (.int .i64 n)) (hb : -9223372036854775808 ≤ m * n ∧ m * n ≤ 9223372036854775807) :
    Yields c ⟨d, .binOp .mul t x y yt, ty, pos, af, g⟩ env L (.int .i64 (m * n)) := by
  have := y_mul (c := c) (L := L) (d := d) (t := t) (yt := yt) (ty := ty) (pos := pos) (af := af) (g := g) hx hy
  rwa [IntWalk.i64_in _ hb] at this
theorem y_quo {x y : Operand} {t yt : TypeId} {k : IntKind} {m n : Int} (hx : evo env x = some (.int k m)) (hy : evo env y = some (.int k n)) (hn : n ≠ 0) :
    Yields c ⟨d, .binOp .quo t x y yt, ty, pos, af, g⟩ env L (.int k (k.wrap (m.tdiv n))) := by
  intro a w h; simp [execOp, h.eval hx, h.eval hy, eqGuard_quo, binOp_quo, Op.intDiv, hn]
theorem y_rem {x y : Operand} {t yt : TypeId} {k : IntKind} {m n : Int} (hx : evo env x = some (.int k m)) (hy : evo env y = some (.int k n)) (hn : n ≠ 0) :
    Yields c ⟨d, .binOp .rem t x y yt, ty, pos, af, g⟩ env L (.int k (m.tmod n)) := by
  intro a w h; simp [execOp, h.eval hx, h.eval hy, eqGuard_rem, binOp_rem, Op.intDiv, hn]
theorem y_quoI {x y : Operand} {t yt : TypeId} {m n : Int} (hx : evo env x = some (.int .i64 m)) (hy : evo env y = some (.int .i64 n)) (hb : 0 ≤ m ∧ m ≤ 9223372036854775807 ∧ 1 ≤ n) :
    Yields c ⟨d, .binOp .quo t x y yt, ty, pos, af, g⟩ env L (.int .i64 (m / n)) := by
  have := y_quo (c := c) (L := L) (d := d) (t := t) (yt := yt) (ty := ty) (pos := pos) (af := af) (g := g) hx hy (by omega)
  rwa [IntWalk.i64_quo _ _ hb] at this
theorem y_remI {x y : Operand} {t yt : TypeId} {k : IntKind} {m n : Int} (hx : evo env x = some (.int k m)) (hy : evo env y = some (.int k n)) (hb : 0 ≤ m ∧ n ≠ 0) :
    Yields c ⟨d, .binOp .rem t x y yt, ty, pos, af, g⟩ env L (.int k (m % n)) := by
  have := y_rem (c := c) (L := L) (d := d) (t := t) (yt := yt) (ty := ty) (pos := pos) (af := af) (g := g) hx hy hb.2
  rwa [IntWalk.rem_in _ _ hb.1] at this
theorem y_and {x y : Operand} {t yt : TypeId} {k : IntKind} {m n : Int} (hx : evo env x = some (.int k m)) (hy : evo env y = some (.int k n)) :
    Yields c ⟨d, .binOp .and t x y yt, ty, pos, af, g⟩ env L (.int k (bits .and k m n)) := by
  intro a w h; simp [execOp, h.eval hx, h.eval hy, eqGuard_and, binOp_and, intBits_and]
theorem y_or {x y : Operand} {t yt : TypeId} {k : IntKind} {m n : Int} (hx : evo env x = some (.int k m)) (hy : evo env y = some (.int k n)) :
    Yields c ⟨d, .binOp .or t x y yt, ty, pos, af, g⟩ env L (.int k (bits .or k m n)) := by
  intro a w h; simp [execOp, h.eval hx, h.eval hy, eqGuard_or, binOp_or, intBits_or]
theorem y_xor {x y : Operand} {t yt : TypeId} {k : IntKind} {m n : Int} (hx : evo env x = some (.int k m)) (hy : evo env y = some (.int k n)) :
    Yields c ⟨d, .binOp .xor t x y yt, ty, pos, af, g⟩ env L (.int k (bits .xor k m n)) := by
  intro a w h; simp [execOp, h.eval hx, h.eval hy, eqGuard_xor, binOp_xor, intBits_xor]
theorem y_shr {x y : Operand} {t yt : TypeId} {k j : IntKind} {m n : Int} (hx : evo env x = some (.int k m)) (hy : evo env y = some (.int j n)) (hb : 0 ≤ n ∧ n ≤ k.bits) :
    Yields c ⟨d, .binOp .shr t x y yt, ty, pos, af, g⟩ env L (.int k (m / 2 ^ n.toNat)) := by
  intro a w h; simp [execOp, h.eval hx, h.eval hy, eqGuard_shr, binOp_shr, shift_shr k j m n hb.1 hb.2]
theorem y_shl {x y : Operand} {t yt : TypeId} {k j : IntKind} {m n : Int} (hx : evo env x = some (.int k m)) (hy : evo env y = some (.int j n)) (hb : 0 ≤ n ∧ n ≤ k.bits) :
    Yields c ⟨d, .binOp .shl t x y yt, ty, pos, af, g⟩ env L (.int k (k.wrap (m * 2 ^ n.toNat))) := by
  intro a w h; simp [execOp, h.eval hx, h.eval hy, eqGuard_shl, binOp_shl, shift_shl k j m n hb.1 hb.2]
theorem y_eql {x y : Operand} {t yt : TypeId} {k : IntKind} {m n : Int} (hx : evo env x = some (.int k m)) (hy : evo env y = some (.int k n)) :
    Yields c ⟨d, .binOp .eql t x y yt, ty, pos, af, g⟩ env L (.bool (m == n)) := by
  intro a w h; simp [execOp, h.eval hx, h.eval hy, eqGuard_at_int, binOp_eql]
theorem y_neq {x y : Operand} {t yt : TypeId} {k : IntKind} {m n : Int} (hx : evo env x = some (.int k m)) (hy : evo env y = some (.int k n)) :
    Yields c ⟨d, .binOp .neq t x y yt, ty, pos, af, g⟩ env L (.bool (m != n)) := by
  intro a w h; simp [execOp, h.eval hx, h.eval hy, eqGuard_at_int, binOp_neq]
theorem y_lss {x y : Operand} {t yt : TypeId} {k : IntKind} {m n : Int} (hx : evo env x = some (.int k m)) (hy : evo env y = some (.int k n)) :
    Yields c ⟨d, .binOp .lss t x y yt, ty, pos, af, g⟩ env L (.bool (decide (m < n))) := by
  intro a w h; simp [execOp, h.eval hx, h.eval hy, eqGuard_lss, binOp_lss]
theorem y_leq {x y : Operand} {t yt : TypeId} {k : IntKind} {m n : Int} (hx : evo env x = some (.int k m)) (hy : evo env y = some (.int k n)) :
    Yields c ⟨d, .binOp .leq t x y yt, ty, pos, af, g⟩ env L (.bool (decide (m ≤ n))) := by
  intro a w h; simp [execOp, h.eval hx, h.eval hy, eqGuard_leq, binOp_leq]
theorem y_gtr {x y : Operand} {t yt : TypeId} {k : IntKind} {m n : Int} (hx : evo env x = some (.int k m)) (hy : evo env y = some (.int k n)) :
    Yields c ⟨d, .binOp .gtr t x y yt, ty, pos, af, g⟩ env L (.bool (decide (n < m))) := by
  intro a w h; simp [execOp, h.eval hx, h.eval hy, eqGuard_gtr, binOp_gtr]
theorem y_geq {x y : Operand} {t yt : TypeId} {k : IntKind} {m n : Int} (hx : evo env x = some (.int k m)) (hy : evo env y = some (.int k n)) :
    Yields c ⟨d, .binOp .geq t x y yt, ty, pos, af, g⟩ env L (.bool (decide (n ≤ m))) := by
  intro a w h; simp [execOp, h.eval hx, h.eval hy, eqGuard_geq, binOp_geq]
theorem y_not {x : Operand} {t : TypeId} {b : Bool} (hx : evo env x = some (.bool b)) : Yields c ⟨d, .unOp .not t x, ty, pos, af, g⟩ env L (.bool (!b)) := by
  intro a w h; simp [execOp, h.eval hx, Op.unary]
theorem y_neg {x : Operand} {t : TypeId} {k : IntKind} {m : Int} (hx : evo env x = some (.int k m)) : Yields c ⟨d, .unOp .neg t x, ty, pos, af, g⟩ env L (.int k (k.wrap (0 - m))) := by
  intro a w h; simp [execOp, h.eval hx, Op.unary, Op.intArith]
theorem y_inv {x : Operand} {t : TypeId} {k : IntKind} {m : Int} (hx : evo env x = some (.int k m)) : Yields c ⟨d, .unOp .xor t x, ty, pos, af, g⟩ env L (.int k (bits .xor k (if k.signed then -1 else k.max) m)) := by
  intro a w h; simp [execOp, h.eval hx, Op.unary, intBits_xor]
theorem y_pickT {x y z : Operand} {b : Bool} {u : Value} (hx : evo env x = some (.bool b)) (hb : b = true) (hy : evo env y = some u) :
    Yields c ⟨d, .pick x y z, ty, pos, af, g⟩ env L u := by
  intro a w h; simp [execOp, h.eval hx, h.eval hy, hb, asBool]
theorem y_pickF {x y z : Operand} {b : Bool} {v : Value} (hx : evo env x = some (.bool b)) (hb : b = false) (hz : evo env z = some v) :
    Yields c ⟨d, .pick x y z, ty, pos, af, g⟩ env L v := by
  intro a w h; simp [execOp, h.eval hx, h.eval hz, hb, asBool]
theorem y_conv {x : Operand} {s t : TypeId} {k j : IntKind} {m : Int} (hs : (c.P.underlying s).isSome = true) (ht : tyInt c.P t j = true) (hx : evo env x = some (.int k m)) :
    Yields c ⟨d, .convert s t x, ty, pos, af, g⟩ env L (.int j (j.wrap m)) := by
  intro a w h
  unfold tyInt at ht
  split at ht
  · rename_i j' hj
    simp at ht; subst ht
    obtain ⟨dd, hd⟩ := Option.isSome_iff_exists.1 hs
    simp [execOp, h.eval hx, convert, run_underlying hd, run_underlying hj, Conv.intToInt]
  · cases ht
end
theorem aFd {L M : List Asrt} {a : Asrt} (h : Fnd L a M := by repeat (first | exact Fnd.here | apply Fnd.there)) : Fnd L a M := h
theorem aSp {L N M : List Asrt} (h : Split L N M := by repeat (first | exact Split.nil | apply Split.cons (by repeat (first | exact Fnd.here | apply Fnd.there)))) : Split L N M := h
end Go.Sl
end
section
namespace Go.Sl
open Go.BigFrame
section
variable {c : Cx} {env : List (Nat × Value)} {L : List Asrt} {d : Option Tmp} {ty : TypeId} {pos : String} {af : Array Edge} {g : Option (Nat × Bool)}
theorem y_str_eql {x y : Operand} {t yt : TypeId} {p q : ByteArray} (hx : evo env x = some (.string p)) (hy : evo env y = some (.string q)) :
    Yields c ⟨d, .binOp .eql t x y yt, ty, pos, af, g⟩ env L (.bool (p.toList == q.toList)) := by
  intro a w h
  simp [execOp, h.eval hx, h.eval hy, eqGuard_at_string, binOp, Op.stringOp]
theorem y_str_neq {x y : Operand} {t yt : TypeId} {p q : ByteArray} (hx : evo env x = some (.string p)) (hy : evo env y = some (.string q)) :
    Yields c ⟨d, .binOp .neq t x y yt, ty, pos, af, g⟩ env L (.bool (!(p.toList == q.toList))) := by
  intro a w h
  simp [execOp, h.eval hx, h.eval hy, eqGuard_at_string, binOp, Op.stringOp]
theorem y_str_add {x y : Operand} {t yt : TypeId} {p q : ByteArray} (hx : evo env x = some (.string p)) (hy : evo env y = some (.string q)) (hn : p.size + q.size ≤ 9223372036854775807) :
    Yields c ⟨d, .binOp .add t x y yt, ty, pos, af, g⟩ env L (.string (p ++ q)) := by
  intro a w h
  have : ¬ ((p.size + q.size : Nat) : Int) > IntKind.i64.max := by rw [IntKind.max_i64]; omega
  simp only [execOp, h.eval hx, h.eval hy, eqGuard_add, binOp, Op.stringOp, if_neg this]
  rfl
theorem y_len_str {t : TypeId} {x : Operand} {s : ByteArray} (ht : tyString c.P t = true) (hx : evo env x = some (.string s)) :
    Yields c ⟨d, .call { callee := .builtin .len, args := #[x], argTypes := #[t] }, ty, pos, af, g⟩ env L (.int .i64 s.size) := by
  intro a w h
  unfold tyString at ht
  split at ht
  · rename_i hu
    rw [execOp_builtin, builtin_len]
    simp [h.eval hx, Builtin.len_, run_underlying hu, goInt]
  · cases ht
theorem y_len_slice {t e n : TypeId} {x : Operand} {p : Option Addr} {l cap : Nat} (ht : tySlice c.P t e n = true) (hx : evo env x = some (.slice p l cap)) :
    Yields c ⟨d, .call { callee := .builtin .len, args := #[x], argTypes := #[t] }, ty, pos, af, g⟩ env L (.int .i64 l) := by
  intro a w h
  unfold tySlice at ht
  split at ht
  · rename_i y hu
    rw [execOp_builtin, builtin_len]
    simp [h.eval hx, Builtin.len_, run_underlying hu, goInt]
  · simp at ht
theorem y_max {ts : Array TypeId} {x y : Operand} {k : IntKind} {m n : Int} (hx : evo env x = some (.int k m)) (hy : evo env y = some (.int k n)) :
    Yields c ⟨d, .call { callee := .builtin .max, args := #[x, y], argTypes := ts }, ty, pos, af, g⟩ env L (.int k (max m n)) := by
  intro a w h
  rw [execOp_builtin, builtin_max]
  simp [h.eval hx, h.eval hy, Builtin.max_, Builtin.max2]
  omega
theorem y_min {ts : Array TypeId} {x y : Operand} {k : IntKind} {m n : Int} (hx : evo env x = some (.int k m)) (hy : evo env y = some (.int k n)) :
    Yields c ⟨d, .call { callee := .builtin .min, args := #[x, y], argTypes := ts }, ty, pos, af, g⟩ env L (.int k (min m n)) := by
  intro a w h
  rw [execOp_builtin, builtin_min]
  simp [h.eval hx, h.eval hy, Builtin.min_, Builtin.min2]
  omega
theorem y_ixs {t e n : TypeId} {x y : Operand} {b o l cap : Nat} {k : IntKind} {i : Int} (ht : tySlice c.P t e n = true) (hx : evo env x = some (.slice (some ⟨b, o, none⟩) l cap)) (hy : evo env y = some (.int k i)) (hi : 0 ≤ i ∧ i < l) :
    Yields c ⟨d, .indexAddr t x y, ty, pos, af, g⟩ env L (.pointer (some ⟨b, o + i.toNat * n, none⟩)) := by
  intro a w h
  simp only [tySlice, Bool.and_eq_true] at ht
  obtain ⟨h1, h2⟩ := ht
  split at h1
  · rename_i z hu
    simp at h1; subst h1
    split at h2
    · rename_i info hinfo
      simp at h2; subst h2
      simp [execOp, h.eval hx, h.eval hy, Instr.indexAt, run_underlying hu, asIntOf, hi.1, hi.2, sizeOf, typeInfo, hinfo, addr_add]
    · cases h2
  · cases h1
theorem y_ixa {t : TypeId} {len e n : Nat} {x y : Operand} {b o : Nat} {k : IntKind} {i : Int} (ht : tyArray c.P t len e n = true) (hx : evo env x = some (.pointer (some ⟨b, o, none⟩))) (hy : evo env y = some (.int k i)) (hi : 0 ≤ i ∧ i < len) :
    Yields c ⟨d, .indexAddr t x y, ty, pos, af, g⟩ env L (.pointer (some ⟨b, o + i.toNat * n, none⟩)) := by
  intro a w h
  simp only [tyArray, Bool.and_eq_true] at ht
  obtain ⟨h1, h2⟩ := ht
  split at h1
  · rename_i l z hu
    simp at h1; obtain ⟨rfl, rfl⟩ := h1
    split at h2
    · rename_i info hinfo
      simp at h2; subst h2
      simp [execOp, h.eval hx, h.eval hy, Instr.indexAt, run_underlying hu, Instr.sureAddr, asIntOf, hi.1, hi.2, sizeOf, typeInfo, hinfo, addr_add]
    · cases h2
  · cases h1
theorem y_byte {t : TypeId} {x y : Operand} {s : ByteArray} {k : IntKind} {i : Int} {u : UInt8} (ht : tyString c.P t = true) (hx : evo env x = some (.string s)) (hy : evo env y = some (.int k i)) (hi : 0 ≤ i) (hu : s.data.toList[i.toNat]? = some u) :
    Yields c ⟨d, .index t x y, ty, pos, af, g⟩ env L (.int .u8 u.toNat) := by
  intro a w h
  unfold tyString at ht
  split at ht
  · rename_i hs
    have : s[i.toNat]? = some u := by
      rw [Array.getElem?_toList] at hu
      exact hu
    simp [execOp, h.eval hx, h.eval hy, Instr.index, run_underlying hs, asIntOf, hi, this]
  · cases ht
theorem y_ext {x : Operand} {vs : List Value} {i : Nat} {v : Value} (hx : evo env x = some (.tuple vs.toArray)) (hv : nth vs i = some v) : Yields c ⟨d, .extract x i, ty, pos, af, g⟩ env L v := by
  intro a w h; rw [nth_eq] at hv; simp [execOp, h.eval hx, Instr.extract, hv]
def tyFieldAt (P : Program) (s f k n : Nat) (agg : Bool) : Bool := match P.underlying s with
  | some (.struct fs) => (match fs[f]? with
    | some fd => fd.offset == k && (if agg then tyAgg P fd.type n else tyScalar P fd.type)
    | none => false)
  | _ => false
theorem y_fieldAgg {s : TypeId} {x : Operand} {f k n : Nat} {cs v : Array Value} (hf : tyFieldAt c.P s f k n true = true) (hx : evo env x = some (.agg cs)) (hv : cs.extract k (k + n) = v) :
    Yields c ⟨d, .field s x f, ty, pos, af, g⟩ env L (.agg v) := by
  intro a w h
  unfold tyFieldAt at hf
  split at hf
  · rename_i fs hu
    split at hf
    · rename_i fd hfd
      simp at hf
      obtain ⟨rfl, hs⟩ := hf
      subst hv
      simp [execOp, h.eval hx, Instr.field, run_underlying hu, hfd, asAgg, part, run_isAgg_agg hs, run_sizeOf_agg hs]
    · cases hf
  · cases hf
theorem y_ixv {t : TypeId} {len e : Nat} {x y : Operand} {cs : List Value} {k : IntKind} {i : Int} {v : Value} (ht : tyArray c.P t len e 1 = true) (he : tyScalar c.P e = true) (hx : evo env x = some (.agg cs.toArray)) (hy : evo env y = some (.int k i)) (hi : 0 ≤ i ∧ i < len) (hv : nth cs i.toNat = some v) :
    Yields c ⟨d, .index t x y, ty, pos, af, g⟩ env L v := by
  intro a w h
  simp only [tyArray, Bool.and_eq_true] at ht
  obtain ⟨h1, h2⟩ := ht
  split at h1
  · rename_i l z hu
    simp at h1; obtain ⟨rfl, rfl⟩ := h1
    split at h2
    · rename_i info hinfo
      simp at h2
      rw [nth_eq] at hv
      simp [execOp, h.eval hx, h.eval hy, Instr.index, run_underlying hu, asIntOf, hi.1, hi.2, sizeOf, typeInfo, hinfo, h2, part, run_isAgg_scalar he, hv]
    · cases h2
  · cases h1
theorem y_ixvAgg {t : TypeId} {len e n : Nat} {x y : Operand} {cs : Array Value} {k : IntKind} {i : Int} {v : Array Value} (ht : tyArray c.P t len e n = true) (he : tyAgg c.P e n = true) (hx : evo env x = some (.agg cs)) (hy : evo env y = some (.int k i)) (hi : 0 ≤ i ∧ i < len) (hv : cs.extract (i.toNat * n) (i.toNat * n + n) = v) :
    Yields c ⟨d, .index t x y, ty, pos, af, g⟩ env L (.agg v) := by
  intro a w h
  simp only [tyArray, Bool.and_eq_true] at ht
  obtain ⟨h1, h2⟩ := ht
  split at h1
  · rename_i l z hu
    simp at h1; obtain ⟨rfl, rfl⟩ := h1
    split at h2
    · rename_i info hinfo
      simp at h2
      subst hv
      simp [execOp, h.eval hx, h.eval hy, Instr.index, run_underlying hu, asIntOf, hi.1, hi.2, sizeOf, typeInfo, hinfo, h2, part, run_isAgg_agg he]
    · cases h2
  · cases h1
theorem y_cutLH {t : TypeId} {x l m : Operand} {s : ByteArray} {k j : IntKind} {lo hi : Int} (ht : tyString c.P t = true) (hx : evo env x = some (.string s)) (hl : evo env l = some (.int k lo)) (hh : evo env m = some (.int j hi)) (hb : 0 ≤ lo ∧ lo ≤ hi ∧ hi ≤ s.size) :
    Yields c ⟨d, .slice t x (some l) (some m) none, ty, pos, af, g⟩ env L (.string (s.extract lo.toNat hi.toNat)) := by
  intro a w h
  unfold tyString at ht
  split at ht
  · rename_i hs
    have h1 : 0 ≤ hi := by omega
    simp [execOp, h.eval hx, h.eval hl, h.eval hh, Instr.sliceAt, run_underlying hs, Instr.slice, Instr.sliceBounds, Instr.sliceBound, asIntOf, hb.1, hb.2.2, h1]
    intro h4; omega
  · cases ht
theorem y_cutL {t : TypeId} {x l : Operand} {s : ByteArray} {k : IntKind} {lo : Int} (ht : tyString c.P t = true) (hx : evo env x = some (.string s)) (hl : evo env l = some (.int k lo)) (hb : 0 ≤ lo ∧ lo ≤ s.size) :
    Yields c ⟨d, .slice t x (some l) none none, ty, pos, af, g⟩ env L (.string (s.extract lo.toNat s.size)) := by
  intro a w h
  unfold tyString at ht
  split at ht
  · rename_i hs
    simp [execOp, h.eval hx, h.eval hl, Instr.sliceAt, run_underlying hs, Instr.slice, Instr.sliceBounds, Instr.sliceBound, asIntOf, hb.1, hb.2]
  · cases ht
theorem y_cutH {t : TypeId} {x m : Operand} {s : ByteArray} {j : IntKind} {hi : Int} (ht : tyString c.P t = true) (hx : evo env x = some (.string s)) (hh : evo env m = some (.int j hi)) (hb : 0 ≤ hi ∧ hi ≤ s.size) :
    Yields c ⟨d, .slice t x none (some m) none, ty, pos, af, g⟩ env L (.string (s.extract 0 hi.toNat)) := by
  intro a w h
  unfold tyString at ht
  split at ht
  · rename_i hs
    simp [execOp, h.eval hx, h.eval hh, Instr.sliceAt, run_underlying hs, Instr.slice, Instr.sliceBounds, Instr.sliceBound, asIntOf, hb.1, hb.2]
  · cases ht
theorem y_func {fn : Fn} {xs ys : Array Operand} {f : FuncId} (hfn : fn = .func f) {vs us : Array Value} (h1 : xs.toList.mapM (evo env) = some vs.toList) (h2 : ys.toList.mapM (evo env) = some us.toList) :
    Yields c ⟨d, .makeFunc fn xs ys, ty, pos, af, g⟩ env L (.func (.func f) vs us) := by
  intro a w h
  subst hfn
  have key : ∀ (l : List Operand) (m : List Value), l.mapM (evo env) = some m → l.map a.eval = m := by
    intro l
    induction l with
    | nil => intro m hm; simpa using hm
    | cons x l ih =>
      intro m hm
      simp only [List.mapM_cons, Option.bind_eq_bind, Option.bind_eq_some_iff, Option.pure_def, Option.some.injEq] at hm
      obtain ⟨v, hv, m', hm', rfl⟩ := hm
      simp [h.eval hv, ih _ hm']
  have e1 : xs.map a.eval = vs := by apply Array.ext'; rw [Array.toList_map]; exact key _ _ h1
  have e2 : ys.map a.eval = us := by apply Array.ext'; rw [Array.toList_map]; exact key _ _ h2
  simp [execOp, Instr.makeFunc, e1, e2]
theorem y_iface {x : Operand} {t : TypeId} {v : Value} (ht : (match c.P.underlying t with | some (.interface _) | none => false | _ => true) = true) (hx : evo env x = some v) :
    Yields c ⟨d, .makeInterface t x, ty, pos, af, g⟩ env L (.iface t v) := by
  intro a w h
  cases hu : c.P.underlying t with
  | none => rw [hu] at ht; cases ht
  | some dd =>
    rw [hu] at ht
    simp only [execOp, Instr.makeInterface, Sem.run_bind, run_underlying hu, Result.andThen_ok, h.eval hx]
    cases dd <;> simp_all
end
def tyPtr (P : Program) (t : TypeId) : Bool := match P.underlying t with | some (.pointer _) => true | _ => false
theorem run_equal_ptr_nil {P : Program} {t : TypeId} (ht : tyPtr P t = true) (p : Option Addr) (w : World) : (Op.equal t (.pointer p) (.pointer none)).run P w = .ok p.isNone w := by
  unfold tyPtr at ht
  split at ht
  · rename_i e hu
    have e1 : Op.equal t (.pointer p) (.pointer none) = Op.equalIn (9999 + 1) t (.pointer p) (.pointer none) := rfl
    have e2 : ∀ k, (Op.equalIn (k + 1) t (.pointer p) (.pointer none)).run P w = .ok p.isNone w := by
      intro k
      cases p <;> simp [Op.equalIn, run_underlying hu]
    rw [e1]
    exact e2 9999
  · cases ht
section
variable {c : Cx} {env : List (Nat × Value)} {L : List Asrt} {d : Option Tmp} {ty : TypeId} {pos : String} {af : Array Edge} {g : Option (Nat × Bool)}
theorem y_ptr_neq {x y : Operand} {t yt : TypeId} {p : Option Addr} (ht : tyPtr c.P t = true) (hx : evo env x = some (.pointer p)) (hy : evo env y = some (.pointer none)) :
    Yields c ⟨d, .binOp .neq t x y yt, ty, pos, af, g⟩ env L (.bool (!p.isNone)) := by
  intro a w h
  have e : (binOp .neq t (.pointer p) (.pointer none)).run c.P w = .ok (.bool (!p.isNone)) w := by
    have e1 : binOp .neq t (.pointer p) (.pointer none) = (do pure (.bool (!(← Op.equal t (.pointer p) (.pointer none))))) := by cases p <;> rfl
    rw [e1, Sem.run_bind, run_equal_ptr_nil ht]; rfl
  have e2 : eqGuard .neq t x y (.pointer p) (.pointer none) = pure () := rfl
  simp [execOp, h.eval hx, h.eval hy, e2, e]
end
end Go.Sl
end
