/- Separation over blocks: what a call owns, and what it leaves alone. -/
import Derived.Laws.World
import Derived.Laws.AppendOwn
set_option linter.all false
namespace Go.Sl

/-- a piece of memory: blocks with what they hold -/
abbrev Piece := List (Nat × Obj)
/-- what is said of a piece -/
abbrev Asrt := Piece → Prop

/-- the block b holds o, and that is all -/
def pts (b : Nat) (o : Obj) : Asrt := fun l => l = [(b, o)]

/-- pieces one behind the other -/
def all : List Asrt → Piece → Prop
  | [], l => l = []
  | A :: L, l => ∃ l1 l2, l = l1 ++ l2 ∧ A l1 ∧ all L l2

/-- several as one -/
def star (L : List Asrt) : Asrt := all L
def ex {α : Type} (A : α → Asrt) : Asrt := fun l => ∃ x, A x l
def fact (p : Prop) : Asrt := fun l => p ∧ l = []

/-- the world has these pieces, apart from each other -/
def Sat (w : World) (L : List Asrt) : Prop :=
  ∃ l : Piece, all L l ∧ (l.map (·.1)).Nodup ∧ ∀ b o, (b, o) ∈ l → w.heap[b]? = some o

theorem all_append {L M : List Asrt} {l : Piece} : all (L ++ M) l ↔ ∃ l1 l2, l = l1 ++ l2 ∧ all L l1 ∧ all M l2 := by
  induction L generalizing l with
  | nil =>
    constructor
    · intro h; exact ⟨[], l, rfl, rfl, h⟩
    · rintro ⟨_, _, rfl, rfl, h⟩; exact h
  | cons A L ih =>
    simp only [List.cons_append, all, ih]
    constructor
    · rintro ⟨l1, l2, rfl, h1, l3, l4, rfl, h3, h4⟩
      exact ⟨l1 ++ l3, l4, by simp, ⟨l1, l3, rfl, h1, h3⟩, h4⟩
    · rintro ⟨l1, l2, rfl, ⟨l3, l4, rfl, h3, h4⟩, h2⟩
      exact ⟨l3, l4 ++ l2, by simp, h3, l4, l2, rfl, h4, h2⟩

theorem all_perm {L M : List Asrt} (h : L.Perm M) : ∀ {l : Piece}, all L l → ∃ m, all M m ∧ l.Perm m := by
  induction h with
  | nil => intro l hl; exact ⟨l, hl, List.Perm.refl _⟩
  | cons A _ ih =>
    rintro l ⟨l1, l2, rfl, h1, h2⟩
    obtain ⟨m, hm, hp⟩ := ih h2
    exact ⟨l1 ++ m, ⟨l1, m, rfl, h1, hm⟩, List.Perm.append_left l1 hp⟩
  | swap A B L =>
    rintro l ⟨l1, l2, rfl, h1, l3, l4, rfl, h3, h4⟩
    refine ⟨l3 ++ (l1 ++ l4), ⟨l3, _, rfl, h3, l1, l4, rfl, h1, h4⟩, ?_⟩
    rw [← List.append_assoc, ← List.append_assoc]
    exact List.Perm.append_right l4 List.perm_append_comm
  | trans _ _ ih1 ih2 =>
    intro l hl
    obtain ⟨m, hm, hp⟩ := ih1 hl
    obtain ⟨n, hn, hq⟩ := ih2 hm
    exact ⟨n, hn, hp.trans hq⟩

theorem Sat.perm {w : World} {L M : List Asrt} (h : Sat w L) (hp : L.Perm M) : Sat w M := by
  obtain ⟨l, h1, h2, h3⟩ := h
  obtain ⟨m, hm, hq⟩ := all_perm hp h1
  exact ⟨m, hm, (hq.map _).nodup_iff.1 h2, fun b o hb => h3 b o (hq.mem_iff.2 hb)⟩

theorem Sat.tail {w : World} {A : Asrt} {L : List Asrt} (h : Sat w (A :: L)) : Sat w L := by
  obtain ⟨l, ⟨l1, l2, rfl, h1, h2⟩, hn, hh⟩ := h
  refine ⟨l2, h2, ?_, fun b o hb => hh b o (List.mem_append_right _ hb)⟩
  rw [List.map_append] at hn
  exact (List.nodup_append.1 hn).2.1

theorem Sat.drop {w : World} {L M : List Asrt} (h : Sat w (L ++ M)) : Sat w M := by
  induction L with
  | nil => exact h
  | cons A L ih => exact ih h.tail

theorem Sat.mono_head {w : World} {A B : Asrt} {L : List Asrt} (h : Sat w (A :: L)) (hab : ∀ l, A l → B l) : Sat w (B :: L) := by
  obtain ⟨l, ⟨l1, l2, rfl, h1, h2⟩, hn, hh⟩ := h
  exact ⟨l1 ++ l2, ⟨l1, l2, rfl, hab _ h1, h2⟩, hn, hh⟩

theorem sat_ex {w : World} {α : Type} {A : α → Asrt} {L : List Asrt} : Sat w (ex A :: L) ↔ ∃ x, Sat w (A x :: L) := by
  constructor
  · rintro ⟨l, ⟨l1, l2, rfl, ⟨x, h1⟩, h2⟩, hn, hh⟩
    exact ⟨x, l1 ++ l2, ⟨l1, l2, rfl, h1, h2⟩, hn, hh⟩
  · rintro ⟨x, l, ⟨l1, l2, rfl, h1, h2⟩, hn, hh⟩
    exact ⟨l1 ++ l2, ⟨l1, l2, rfl, ⟨x, h1⟩, h2⟩, hn, hh⟩

theorem sat_fact {w : World} {p : Prop} {L : List Asrt} : Sat w (fact p :: L) ↔ p ∧ Sat w L := by
  constructor
  · rintro ⟨l, ⟨l1, l2, rfl, ⟨hp, rfl⟩, h2⟩, hn, hh⟩
    exact ⟨hp, l2, h2, hn, hh⟩
  · rintro ⟨hp, l, h2, hn, hh⟩
    exact ⟨l, ⟨[], l, rfl, ⟨hp, rfl⟩, h2⟩, hn, hh⟩

theorem sat_star {w : World} {M L : List Asrt} : Sat w (star M :: L) ↔ Sat w (M ++ L) := by
  constructor
  · rintro ⟨l, ⟨l1, l2, rfl, h1, h2⟩, hn, hh⟩
    exact ⟨l1 ++ l2, all_append.2 ⟨l1, l2, rfl, h1, h2⟩, hn, hh⟩
  · rintro ⟨l, h, hn, hh⟩
    obtain ⟨l1, l2, rfl, h1, h2⟩ := all_append.1 h
    exact ⟨l1 ++ l2, ⟨l1, l2, rfl, h1, h2⟩, hn, hh⟩

theorem Sat.pts {w : World} {b : Nat} {o : Obj} {L : List Asrt} (h : Sat w (pts b o :: L)) : w.heap[b]? = some o := by
  obtain ⟨l, ⟨l1, l2, rfl, rfl, h2⟩, hn, hh⟩ := h
  exact hh b o (by simp)

theorem Sat.ne {w : World} {b b' : Nat} {o o' : Obj} {L : List Asrt} (h : Sat w (Sl.pts b o :: Sl.pts b' o' :: L)) : b ≠ b' := by
  obtain ⟨l, ⟨l1, l2, rfl, rfl, l3, l4, rfl, rfl, h2⟩, hn, hh⟩ := h
  intro e
  subst e
  simp at hn

theorem Sat.nil (w : World) : Sat w [] := ⟨[], rfl, by simp, by simp⟩

/-- worlds that differ in memory and draws alone -/
structure Like (w w' : World) : Prop where
  os : w'.os = w.os
  tape : w'.tape = w.tape
  output : w'.output = w.output

theorem Like.refl (w : World) : Like w w := ⟨rfl, rfl, rfl⟩
theorem Like.trans {a b c : World} (h : Like a b) (k : Like b c) : Like a c := ⟨k.os.trans h.os, k.tape.trans h.tape, k.output.trans h.output⟩
theorem Like.drew {a b : World} (h : Like a b) : Like a b.drew := h.trans ⟨rfl, rfl, rfl⟩
theorem Like.alloc {a b : World} (h : Like a b) (o : Obj) : Like a (b.alloc o) := h.trans ⟨rfl, rfl, rfl⟩

/-- what a block holds is another thing -/
def put (w : World) (b : Nat) (o : Obj) : World := { w with heap := w.heap.setIfInBounds b o }
theorem Like.put {a b : World} (h : Like a b) (k : Nat) (o : Obj) : Like a (Sl.put b k o) := h.trans ⟨rfl, rfl, rfl⟩

theorem heap_lt {w : World} {b : Nat} {o : Obj} (h : w.heap[b]? = some o) : b < w.heap.size := by
  rcases Nat.lt_or_ge b w.heap.size with h' | h'
  · exact h'
  · rw [Array.getElem?_eq_none h'] at h; cases h

theorem Sat.put {w : World} {b : Nat} {o o' : Obj} {L : List Asrt} (h : Sat w (Sl.pts b o :: L)) : Sat (Sl.put w b o') (Sl.pts b o' :: L) := by
  have hb := heap_lt h.pts
  obtain ⟨l, ⟨l1, l2, rfl, rfl, h2⟩, hn, hh⟩ := h
  simp only [List.cons_append, List.nil_append, List.map_cons, List.nodup_cons] at hn
  refine ⟨(b, o') :: l2, ⟨[(b, o')], l2, rfl, rfl, h2⟩, by simpa using hn, ?_⟩
  intro k x hk
  rcases List.mem_cons.1 hk with e | hk
  · simp only [Prod.mk.injEq] at e
    obtain ⟨rfl, rfl⟩ := e
    simp [Sl.put, hb]
  · have hne : k ≠ b := fun e => hn.1 (List.mem_map.2 ⟨(k, x), hk, by simp [e]⟩)
    have := hh k x (List.mem_append_right _ hk)
    simp only [Sl.put, Array.getElem?_setIfInBounds]
    rw [if_neg (Ne.symm hne)]
    exact this

theorem Sat.alloc {w : World} {L : List Asrt} (h : Sat w L) (o : Obj) : Sat (w.alloc o) (Sl.pts w.heap.size o :: L) := by
  obtain ⟨l, h1, hn, hh⟩ := h
  have hlt : ∀ b x, (b, x) ∈ l → b < w.heap.size := fun b x hb => heap_lt (hh b x hb)
  refine ⟨(w.heap.size, o) :: l, ⟨[(w.heap.size, o)], l, rfl, rfl, h1⟩, ?_, ?_⟩
  · simp only [List.map_cons, List.nodup_cons]
    refine ⟨?_, hn⟩
    rintro hm
    obtain ⟨⟨k, x⟩, hk, e⟩ := List.mem_map.1 hm
    have := hlt k x hk
    simp at e; omega
  · intro k x hk
    rcases List.mem_cons.1 hk with e | hk
    · simp only [Prod.mk.injEq] at e
      obtain ⟨rfl, rfl⟩ := e
      show (w.heap.push _)[w.heap.size]? = some _
      simp
    · have := hlt k x hk
      show (w.heap.push o)[k]? = some x
      rw [Array.getElem?_push, if_neg (by omega)]
      exact hh k x hk

theorem Sat.heap {w w' : World} {L : List Asrt} (h : Sat w L) (e : w'.heap = w.heap) : Sat w' L := by
  obtain ⟨l, h1, hn, hh⟩ := h
  exact ⟨l, h1, hn, fun b o hb => by rw [e]; exact hh b o hb⟩

theorem Sat.drew {w : World} {L : List Asrt} (h : Sat w L) : Sat w.drew L := h.heap rfl

/-- all that is there, as it is -/
def whole (w : World) : Asrt := fun l => l = (List.range w.heap.size).map fun b => (b, w.heap[b]!)

theorem sat_whole (w : World) : Sat w [whole w] := by
  refine ⟨(List.range w.heap.size).map fun b => (b, w.heap[b]!), ⟨_, [], by simp, rfl, rfl⟩, ?_, ?_⟩
  · simp only [List.map_map]
    have : ((fun x : Nat × Obj => x.1) ∘ fun b => (b, w.heap[b]!)) = id := rfl
    rw [this, List.map_id]
    exact List.nodup_range
  · intro b o hb
    obtain ⟨k, hk, e⟩ := List.mem_map.1 hb
    simp only [Prod.mk.injEq] at e
    obtain ⟨rfl, rfl⟩ := e
    have := List.mem_range.1 hk
    simp [this]

theorem Sat.whole_block {w w' : World} {L : List Asrt} (h : Sat w' (whole w :: L)) (k : Nat) (hk : k < w.heap.size) : w'.heap[k]? = w.heap[k]? := by
  obtain ⟨l, ⟨l1, l2, rfl, rfl, h2⟩, hn, hh⟩ := h
  have := hh k (w.heap[k]!) (List.mem_append_left _ (List.mem_map.2 ⟨k, List.mem_range.2 hk, rfl⟩))
  rw [this]; simp [hk]

end Go.Sl
