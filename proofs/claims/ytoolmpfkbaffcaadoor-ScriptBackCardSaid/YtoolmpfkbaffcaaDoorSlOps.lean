/- What an operation leaves in its slot, by what the slots and the memory hold. -/
import Derived.Tactics
import Derived.IntWalk
import Derived.Test.YtoolmpfkbaffcaaDoorSlBase
set_option linter.all false
namespace Go.Sl

/-- what stands in a slot, as far as it is known -/
def look : List (Nat × Value) → Nat → Option Value
  | [], _ => none
  | (k, v) :: e, t => match Nat.beq k t with | true => some v | false => look e t

/-- a list's one -/
def nth {α : Type} : List α → Nat → Option α
  | [], _ => none
  | x :: _, 0 => some x
  | _ :: l, n + 1 => nth l n
theorem nth_eq {α : Type} : ∀ (l : List α) (n : Nat), nth l n = l[n]?
  | [], n => by simp [nth]
  | x :: l, 0 => by simp [nth]
  | x :: l, n + 1 => by simp [nth, nth_eq l n]

/-- a function's fixed things: the program, how many slots, what was deferred, the world that it began in -/
structure Cx where
  P : Program
  n : Nat
  ds : List Deferred
  w0 : World

structure Holds (c : Cx) (env : List (Nat × Value)) (L : List Asrt) (a : Act) (w : World) : Prop where
  size : a.tmps.size = c.n
  slots : ∀ t v, look env t = some v → a.tmps[t]? = some v
  defers : a.defers = c.ds
  sat : Sat w L
  like : Like c.w0 w

def evo (env : List (Nat × Value)) : Operand → Option Value
  | .tmp t => look env t
  | .const v => some v
  | .global g => some (.pointer (some ⟨g, 0, none⟩))
  | .func f => some (.func (.func f) #[] #[])

theorem Holds.eval {c : Cx} {env L a w} (h : Holds c env L a w) {x : Operand} {v : Value} (hx : evo env x = some v) : a.eval x = v := by
  cases x with
  | tmp t => have := h.slots t v hx; simp [Act.eval, this]
  | const u => simpa [evo, Act.eval] using hx
  | global g => simpa [evo, Act.eval] using hx
  | func f => simpa [evo, Act.eval] using hx

theorem Holds.put {c : Cx} {env L a w} (h : Holds c env L a w) (d : Nat) (v : Value) (hd : Nat.blt d c.n = true) : Holds c ((d, v) :: env) L (a.put (some d) v) w := by
  have hd' : d < c.n := Nat.blt_eq ▸ hd
  refine ⟨by simp [Act.put, h.size], ?_, h.defers, h.sat, h.like⟩
  intro t u ht
  simp only [look] at ht
  cases hb : Nat.beq d t with
  | true =>
    rw [hb] at ht
    have : d = t := Nat.eq_of_beq_eq_true hb
    subst this
    simp only [Option.some.injEq] at ht
    subst ht
    simp [Act.put, h.size, hd']
  | false =>
    rw [hb] at ht
    have hne : d ≠ t := Nat.ne_of_beq_eq_false hb
    simp only [Act.put, Array.getElem?_setIfInBounds]
    rw [if_neg hne]
    exact h.slots t u ht

theorem Holds.none {c : Cx} {env L a w} (h : Holds c env L a w) (v : Value) : Holds c env L (a.put none v) w := h
theorem Holds.drew {c : Cx} {env L a w} (h : Holds c env L a w) : Holds c env L a w.drew := ⟨h.size, h.slots, h.defers, h.sat.drew, h.like.drew⟩

/-- the operation leaves v, and nothing else happens, wherever this holds -/
def Yields (c : Cx) (o : Oper) (env : List (Nat × Value)) (L : List Asrt) (v : Value) : Prop :=
  ∀ a w, Holds c env L a w → (execOp a.eval o).run c.P w = .ok (.value v) w

/-- a piece is among others -/
def Fnd (L : List Asrt) (A : Asrt) (M : List Asrt) : Prop := L.Perm (A :: M)
theorem Fnd.here {A : Asrt} {L : List Asrt} : Fnd (A :: L) A L := List.Perm.refl _
theorem Fnd.there {A B : Asrt} {L M : List Asrt} (h : Fnd L A M) : Fnd (B :: L) A (B :: M) := (List.Perm.cons B h).trans (List.Perm.swap A B M)
theorem Fnd.sat {L M : List Asrt} {A : Asrt} {w : World} (h : Fnd L A M) (hs : Sat w L) : Sat w (A :: M) := hs.perm h

/-- a block is among them: looked for by its number -/
class FndB (L : List Asrt) (b : Nat) (o : outParam Obj) (M : outParam (List Asrt)) : Prop where
  out : L.Perm (pts b o :: M)
instance (priority := high) FndB.here {b : Nat} {o : Obj} {L : List Asrt} : FndB (pts b o :: L) b o L := ⟨List.Perm.refl _⟩
instance FndB.there {A : Asrt} {b : Nat} {o : Obj} {L M : List Asrt} [h : FndB L b o M] : FndB (A :: L) b o (A :: M) := ⟨(List.Perm.cons A h.out).trans (List.Perm.swap _ A M)⟩
theorem FndB.sat {L M : List Asrt} {b : Nat} {o : Obj} {w : World} (h : FndB L b o M) (hs : Sat w L) : Sat w (pts b o :: M) := hs.perm h.out

/-- some are among others, and what is left -/
def Split (L M F : List Asrt) : Prop := L.Perm (M ++ F)
theorem Split.nil {L : List Asrt} : Split L [] L := List.Perm.refl _
theorem Split.cons {L L1 M F : List Asrt} {A : Asrt} (h : Fnd L A L1) (k : Split L1 M F) : Split L (A :: M) F := h.trans (List.Perm.cons A k)

/-! ### closed facts on types -/
def tyScalar (P : Program) (t : TypeId) : Bool := match P.underlying t with | some (.struct _) | some (.array _ _) | none => false | some _ => true
def tyAgg (P : Program) (t : TypeId) (n : Nat) : Bool := (match P.underlying t with | some (.struct _) | some (.array _ _) => true | _ => false) && (match P.info? t with | some i => i.size == n | none => false)
def tyField (P : Program) (s f k : Nat) : Bool := match P.underlying s with
  | some (.struct fs) => (match fs[f]? with
    | some fd => fd.offset == k && (match P.info? fd.type with | some i => i.size != 0 | none => false)
    | none => false)
  | _ => false
def tySlice (P : Program) (t e n : Nat) : Bool := (match P.underlying t with | some (.slice x) => x == e | _ => false) && (match P.info? e with | some i => i.size == n | none => false)
def tyArray (P : Program) (t len e n : Nat) : Bool := (match P.underlying t with | some (.array l x) => l == len && x == e | _ => false) && (match P.info? e with | some i => i.size == n | none => false)
def tyInt (P : Program) (t : TypeId) (k : IntKind) : Bool := match P.underlying t with | some (.int j) => j == k | _ => false
def tyString (P : Program) (t : TypeId) : Bool := match P.underlying t with | some .string => true | _ => false
def tyMap (P : Program) (t k e : TypeId) : Bool := match P.underlying t with | some (.map a b) => a == k && b == e | _ => false

theorem run_isAgg_scalar {P : Program} {t : TypeId} (h : tyScalar P t = true) (w : World) : (isAgg t).run P w = .ok false w := by
  unfold tyScalar at h
  unfold isAgg
  cases hu : P.underlying t with
  | none => rw [hu] at h; simp at h
  | some d => rw [hu] at h; rw [Sem.run_bind, run_underlying hu w]; cases d <;> simp_all

theorem run_isAgg_agg {P : Program} {t : TypeId} {n : Nat} (h : tyAgg P t n = true) (w : World) : (isAgg t).run P w = .ok true w := by
  unfold tyAgg at h
  unfold isAgg
  cases hu : P.underlying t with
  | none => rw [hu] at h; simp at h
  | some d => rw [hu] at h; rw [Sem.run_bind, run_underlying hu w]; cases d <;> simp_all

theorem run_sizeOf_agg {P : Program} {t : TypeId} {n : Nat} (h : tyAgg P t n = true) (w : World) : (sizeOf t).run P w = .ok n w := by
  unfold tyAgg at h
  unfold sizeOf typeInfo
  cases hi : P.info? t with
  | none => rw [hi] at h; simp at h
  | some i => rw [hi] at h; simp at h; simp [hi, h.2]

section
variable {c : Cx} {env : List (Nat × Value)} {L : List Asrt} {d : Option Tmp} {ty : TypeId} {pos : String} {af : Array Edge} {g : Option (Nat × Bool)}

theorem y_move {x : Operand} {v : Value} (hx : evo env x = some v) : Yields c ⟨d, .move x, ty, pos, af, g⟩ env L v := by
  intro a w h; simp [execOp, h.eval hx]
theorem y_assign {x : Operand} {v : Value} (hx : evo env x = some v) : Yields c ⟨d, .assign x, ty, pos, af, g⟩ env L v := by
  intro a w h; simp [execOp, h.eval hx]
theorem y_nil {x : Operand} {p : Addr} (hx : evo env x = some (.pointer (some p))) : Yields c ⟨d, .nilCheck x, ty, pos, af, g⟩ env L (.pointer (some p)) := by
  intro a w h; simp [execOp, h.eval hx]
theorem y_nilF {x : Operand} {f : FuncId} {as cs : Array Value} (hx : evo env x = some (.func (.func f) as cs)) : Yields c ⟨d, .nilCheck x, ty, pos, af, g⟩ env L (.func (.func f) as cs) := by
  intro a w h; simp [execOp, h.eval hx]

theorem addr_add (b o k : Nat) : (⟨b, o, none⟩ : Addr).add k = ⟨b, o + k, none⟩ := Addr.add_lit b o k

theorem y_fld {s : TypeId} {x : Operand} {f b o k : Nat} (hf : tyField c.P s f k = true) (hx : evo env x = some (.pointer (some ⟨b, o, none⟩))) :
    Yields c ⟨d, .fieldAddr s x f, ty, pos, af, g⟩ env L (.pointer (some ⟨b, o + k, none⟩)) := by
  intro a w h
  unfold tyField at hf
  split at hf
  · rename_i fs hu
    split at hf
    · rename_i fd hfd
      simp only [Bool.and_eq_true, beq_iff_eq] at hf
      obtain ⟨rfl, hs⟩ := hf
      split at hs
      · rename_i i hi
        have hs' : i.size ≠ 0 := by simpa using hs
        simp [execOp, h.eval hx, Instr.fieldAt, run_underlying hu, hfd, Instr.sureAddr, fieldPlace, sizeOf, typeInfo, hi, hs', addr_add]
      · cases hs
    · cases hf
  · cases hf

theorem y_load {x : Operand} {t : TypeId} {b o : Nat} {cs : List Value} {e : TypeId} {fr : Nat × Nat} {M : List Asrt} {v : Value}
    (ht : tyScalar c.P t = true) (hx : evo env x = some (.pointer (some ⟨b, o, none⟩))) [hL : FndB L b (.cells cs.toArray e fr) M] (hv : nth cs o = some v) :
    Yields c ⟨d, .load t x, ty, pos, af, g⟩ env L v := by
  intro a w h
  have hh := (hL.sat h.sat).pts
  have hc : w.cell? ⟨b, o, none⟩ = some v := by rw [nth_eq] at hv; simp [World.cell?, hh, hv]
  simp [execOp, h.eval hx, Instr.loadAt, Instr.sureAddr, loadVar, run_isAgg_scalar ht, hc]

theorem run_loadCells_blk {P : Program} {w : World} {b o n : Nat} {cs : Array Value} {e : TypeId} {fr : Nat × Nat} (hh : w.heap[b]? = some (.cells cs e fr)) (hn : o + n ≤ cs.size) :
    (loadCells ⟨b, o, none⟩ n).run P w = .ok (cs.extract o (o + n)) w := by
  rw [run_loadCells (P := P) w ⟨b, o, none⟩ n (fun j => cs.getD (o + j) undef)]
  · congr 1
    apply Array.ext
    · simp; omega
    · intro i h1 h2
      simp at h1 h2 ⊢
      rw [Array.getElem?_eq_getElem (by omega)]; rfl
  · intro j hj
    rw [addr_add]
    simp [World.cell?, hh]
    rw [Array.getElem?_eq_getElem (by omega)]; rfl

theorem y_loadAgg {x : Operand} {t : TypeId} {b o n : Nat} {cs : Array Value} {e : TypeId} {fr : Nat × Nat} {M : List Asrt} {v : Array Value}
    (ht : tyAgg c.P t n = true) (hx : evo env x = some (.pointer (some ⟨b, o, none⟩))) [hL : FndB L b (.cells cs e fr) M] (hn : o + n ≤ cs.size) (hv : cs.extract o (o + n) = v) :
    Yields c ⟨d, .load t x, ty, pos, af, g⟩ env L (.agg v) := by
  intro a w h
  have hh := (hL.sat h.sat).pts
  subst hv
  simp [execOp, h.eval hx, Instr.loadAt, Instr.sureAddr, loadVar, run_isAgg_agg ht, run_sizeOf_agg ht, run_loadCells_blk hh hn]

/-! ### numbers -/
theorem y_add {x y : Operand} {t yt : TypeId} {k : IntKind} {m n : Int} (hx : evo env x = some (.int k m)) (hy : evo env y = some (.int k n)) :
    Yields c ⟨d, .binOp .add t x y yt, ty, pos, af, g⟩ env L (.int k (k.wrap (m + n))) := by
  intro a w h; simp [execOp, h.eval hx, h.eval hy, eqGuard_add, binOp_add, Op.intArith]
theorem y_sub {x y : Operand} {t yt : TypeId} {k : IntKind} {m n : Int} (hx : evo env x = some (.int k m)) (hy : evo env y = some (.int k n)) :
    Yields c ⟨d, .binOp .sub t x y yt, ty, pos, af, g⟩ env L (.int k (k.wrap (m - n))) := by
  intro a w h; simp [execOp, h.eval hx, h.eval hy, eqGuard_sub, binOp_sub, Op.intArith]
theorem y_mul {x y : Operand} {t yt : TypeId} {k : IntKind} {m n : Int} (hx : evo env x = some (.int k m)) (hy : evo env y = some (.int k n)) :
    Yields c ⟨d, .binOp .mul t x y yt, ty, pos, af, g⟩ env L (.int k (k.wrap (m * n))) := by
  intro a w h; simp [execOp, h.eval hx, h.eval hy, eqGuard_mul, binOp_mul, Op.intArith]
theorem y_addI {x y : Operand} {t yt : TypeId} {m n : Int} (hx : evo env x = some (.int .i64 m)) (hy : evo env y = some (.int .i64 n)) (hb : -9223372036854775808 ≤ m + n ∧ m + n ≤ 9223372036854775807) :
    Yields c ⟨d, .binOp .add t x y yt, ty, pos, af, g⟩ env L (.int .i64 (m + n)) := by
  have := y_add (c := c) (L := L) (d := d) (t := t) (yt := yt) (ty := ty) (pos := pos) (af := af) (g := g) hx hy
  rwa [IntWalk.i64_in _ hb] at this
theorem y_subI {x y : Operand} {t yt : TypeId} {m n : Int} (hx : evo env x = some (.int .i64 m)) (hy : evo env y = some (.int .i64 n)) (hb : -9223372036854775808 ≤ m - n ∧ m - n ≤ 9223372036854775807) :
    Yields c ⟨d, .binOp .sub t x y yt, ty, pos, af, g⟩ env L (.int .i64 (m - n)) := by
  have := y_sub (c := c) (L := L) (d := d) (t := t) (yt := yt) (ty := ty) (pos := pos) (af := af) (g := g) hx hy
  rwa [IntWalk.i64_in _ hb] at this
theorem y_mulI {x y : Operand} {t yt : TypeId} {m n : Int} (hx : evo env x = some (.int .i64 m)) (hy : evo env y = some (.int .i64 n)) (hb : -9223372036854775808 ≤ m * n ∧ m * n ≤ 9223372036854775807) :
    Yields c ⟨d, .binOp .mul t x y yt, ty, pos, af, g⟩ env L (.int .i64 (m * n)) := by
  have := y_mul (c := c) (L := L) (d := d) (t := t) (yt := yt) (ty := ty) (pos := pos) (af := af) (g := g) hx hy
  rwa [IntWalk.i64_in _ hb] at this
theorem y_quo {x y : Operand} {t yt : TypeId} {k : IntKind} {m n : Int} (hx : evo env x = some (.int k m)) (hy : evo env y = some (.int k n)) (hn : n ≠ 0) :
    Yields c ⟨d, .binOp .quo t x y yt, ty, pos, af, g⟩ env L (.int k (k.wrap (m.tdiv n))) := by
  intro a w h; simp [execOp, h.eval hx, h.eval hy, eqGuard_quo, binOp_quo, Op.intDiv, hn]
theorem y_rem {x y : Operand} {t yt : TypeId} {k : IntKind} {m n : Int} (hx : evo env x = some (.int k m)) (hy : evo env y = some (.int k n)) (hn : n ≠ 0) :
    Yields c ⟨d, .binOp .rem t x y yt, ty, pos, af, g⟩ env L (.int k (m.tmod n)) := by
  intro a w h; simp [execOp, h.eval hx, h.eval hy, eqGuard_rem, binOp_rem, Op.intDiv, hn]
/-- of numbers from 0 on -/
theorem y_quoI {x y : Operand} {t yt : TypeId} {m n : Int} (hx : evo env x = some (.int .i64 m)) (hy : evo env y = some (.int .i64 n)) (hb : 0 ≤ m ∧ m ≤ 9223372036854775807 ∧ 1 ≤ n) :
    Yields c ⟨d, .binOp .quo t x y yt, ty, pos, af, g⟩ env L (.int .i64 (m / n)) := by
  have := y_quo (c := c) (L := L) (d := d) (t := t) (yt := yt) (ty := ty) (pos := pos) (af := af) (g := g) hx hy (by omega)
  rwa [IntWalk.i64_quo _ _ hb] at this
theorem y_remI {x y : Operand} {t yt : TypeId} {k : IntKind} {m n : Int} (hx : evo env x = some (.int k m)) (hy : evo env y = some (.int k n)) (hb : 0 ≤ m ∧ n ≠ 0) :
    Yields c ⟨d, .binOp .rem t x y yt, ty, pos, af, g⟩ env L (.int k (m % n)) := by
  have := y_rem (c := c) (L := L) (d := d) (t := t) (yt := yt) (ty := ty) (pos := pos) (af := af) (g := g) hx hy hb.2
  rwa [IntWalk.rem_in _ _ hb.1] at this
theorem y_and {x y : Operand} {t yt : TypeId} {k : IntKind} {m n : Int} (hx : evo env x = some (.int k m)) (hy : evo env y = some (.int k n)) :
    Yields c ⟨d, .binOp .and t x y yt, ty, pos, af, g⟩ env L (.int k (bits .and k m n)) := by
  intro a w h; simp [execOp, h.eval hx, h.eval hy, eqGuard_and, binOp_and, intBits_and]
theorem y_or {x y : Operand} {t yt : TypeId} {k : IntKind} {m n : Int} (hx : evo env x = some (.int k m)) (hy : evo env y = some (.int k n)) :
    Yields c ⟨d, .binOp .or t x y yt, ty, pos, af, g⟩ env L (.int k (bits .or k m n)) := by
  intro a w h; simp [execOp, h.eval hx, h.eval hy, eqGuard_or, binOp_or, intBits_or]
theorem y_xor {x y : Operand} {t yt : TypeId} {k : IntKind} {m n : Int} (hx : evo env x = some (.int k m)) (hy : evo env y = some (.int k n)) :
    Yields c ⟨d, .binOp .xor t x y yt, ty, pos, af, g⟩ env L (.int k (bits .xor k m n)) := by
  intro a w h; simp [execOp, h.eval hx, h.eval hy, eqGuard_xor, binOp_xor, intBits_xor]
theorem y_shr {x y : Operand} {t yt : TypeId} {k j : IntKind} {m n : Int} (hx : evo env x = some (.int k m)) (hy : evo env y = some (.int j n)) (hb : 0 ≤ n ∧ n ≤ k.bits) :
    Yields c ⟨d, .binOp .shr t x y yt, ty, pos, af, g⟩ env L (.int k (m / 2 ^ n.toNat)) := by
  intro a w h; simp [execOp, h.eval hx, h.eval hy, eqGuard_shr, binOp_shr, shift_shr k j m n hb.1 hb.2]
theorem y_shl {x y : Operand} {t yt : TypeId} {k j : IntKind} {m n : Int} (hx : evo env x = some (.int k m)) (hy : evo env y = some (.int j n)) (hb : 0 ≤ n ∧ n ≤ k.bits) :
    Yields c ⟨d, .binOp .shl t x y yt, ty, pos, af, g⟩ env L (.int k (k.wrap (m * 2 ^ n.toNat))) := by
  intro a w h; simp [execOp, h.eval hx, h.eval hy, eqGuard_shl, binOp_shl, shift_shl k j m n hb.1 hb.2]
theorem y_eql {x y : Operand} {t yt : TypeId} {k : IntKind} {m n : Int} (hx : evo env x = some (.int k m)) (hy : evo env y = some (.int k n)) :
    Yields c ⟨d, .binOp .eql t x y yt, ty, pos, af, g⟩ env L (.bool (m == n)) := by
  intro a w h; simp [execOp, h.eval hx, h.eval hy, eqGuard_at_int, binOp_eql]
theorem y_neq {x y : Operand} {t yt : TypeId} {k : IntKind} {m n : Int} (hx : evo env x = some (.int k m)) (hy : evo env y = some (.int k n)) :
    Yields c ⟨d, .binOp .neq t x y yt, ty, pos, af, g⟩ env L (.bool (m != n)) := by
  intro a w h; simp [execOp, h.eval hx, h.eval hy, eqGuard_at_int, binOp_neq]
theorem y_lss {x y : Operand} {t yt : TypeId} {k : IntKind} {m n : Int} (hx : evo env x = some (.int k m)) (hy : evo env y = some (.int k n)) :
    Yields c ⟨d, .binOp .lss t x y yt, ty, pos, af, g⟩ env L (.bool (decide (m < n))) := by
  intro a w h; simp [execOp, h.eval hx, h.eval hy, eqGuard_lss, binOp_lss]
theorem y_leq {x y : Operand} {t yt : TypeId} {k : IntKind} {m n : Int} (hx : evo env x = some (.int k m)) (hy : evo env y = some (.int k n)) :
    Yields c ⟨d, .binOp .leq t x y yt, ty, pos, af, g⟩ env L (.bool (decide (m ≤ n))) := by
  intro a w h; simp [execOp, h.eval hx, h.eval hy, eqGuard_leq, binOp_leq]
theorem y_gtr {x y : Operand} {t yt : TypeId} {k : IntKind} {m n : Int} (hx : evo env x = some (.int k m)) (hy : evo env y = some (.int k n)) :
    Yields c ⟨d, .binOp .gtr t x y yt, ty, pos, af, g⟩ env L (.bool (decide (n < m))) := by
  intro a w h; simp [execOp, h.eval hx, h.eval hy, eqGuard_gtr, binOp_gtr]
theorem y_geq {x y : Operand} {t yt : TypeId} {k : IntKind} {m n : Int} (hx : evo env x = some (.int k m)) (hy : evo env y = some (.int k n)) :
    Yields c ⟨d, .binOp .geq t x y yt, ty, pos, af, g⟩ env L (.bool (decide (n ≤ m))) := by
  intro a w h; simp [execOp, h.eval hx, h.eval hy, eqGuard_geq, binOp_geq]
theorem y_not {x : Operand} {t : TypeId} {b : Bool} (hx : evo env x = some (.bool b)) : Yields c ⟨d, .unOp .not t x, ty, pos, af, g⟩ env L (.bool (!b)) := by
  intro a w h; simp [execOp, h.eval hx, Op.unary]
theorem y_neg {x : Operand} {t : TypeId} {k : IntKind} {m : Int} (hx : evo env x = some (.int k m)) : Yields c ⟨d, .unOp .neg t x, ty, pos, af, g⟩ env L (.int k (k.wrap (0 - m))) := by
  intro a w h; simp [execOp, h.eval hx, Op.unary, Op.intArith]
theorem y_inv {x : Operand} {t : TypeId} {k : IntKind} {m : Int} (hx : evo env x = some (.int k m)) : Yields c ⟨d, .unOp .xor t x, ty, pos, af, g⟩ env L (.int k (bits .xor k (if k.signed then -1 else k.max) m)) := by
  intro a w h; simp [execOp, h.eval hx, Op.unary, intBits_xor]
theorem y_pick {x y z : Operand} {b : Bool} {u v : Value} (hx : evo env x = some (.bool b)) (hy : evo env y = some u) (hz : evo env z = some v) :
    Yields c ⟨d, .pick x y z, ty, pos, af, g⟩ env L (if b then u else v) := by
  intro a w h; simp [execOp, h.eval hx, h.eval hy, h.eval hz, asBool]
theorem y_pickT {x y z : Operand} {b : Bool} {u : Value} (hx : evo env x = some (.bool b)) (hb : b = true) (hy : evo env y = some u) :
    Yields c ⟨d, .pick x y z, ty, pos, af, g⟩ env L u := by
  intro a w h; simp [execOp, h.eval hx, h.eval hy, hb, asBool]
theorem y_pickF {x y z : Operand} {b : Bool} {v : Value} (hx : evo env x = some (.bool b)) (hb : b = false) (hz : evo env z = some v) :
    Yields c ⟨d, .pick x y z, ty, pos, af, g⟩ env L v := by
  intro a w h; simp [execOp, h.eval hx, h.eval hz, hb, asBool]
theorem y_conv {x : Operand} {s t : TypeId} {k j : IntKind} {m : Int} (hs : (c.P.underlying s).isSome = true) (ht : tyInt c.P t j = true) (hx : evo env x = some (.int k m)) :
    Yields c ⟨d, .convert s t x, ty, pos, af, g⟩ env L (.int j (j.wrap m)) := by
  intro a w h
  unfold tyInt at ht
  split at ht
  · rename_i j' hj
    simp at ht; subst ht
    obtain ⟨dd, hd⟩ := Option.isSome_iff_exists.1 hs
    simp [execOp, h.eval hx, convert, run_underlying hd, run_underlying hj, Conv.intToInt]
  · cases ht
end
end Go.Sl
