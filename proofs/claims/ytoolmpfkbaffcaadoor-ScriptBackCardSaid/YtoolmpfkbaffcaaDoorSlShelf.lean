/- The library's contracts, as contracts of this layer. -/
import Derived.Test.YtoolmpfkbaffcaaDoorSlLast
import Derived.Below
set_option linter.all false
namespace Go.Sl
open Go.RowKit
theorem sat_below {w w' : World} {L : List Asrt} (h : Sat w L) (hb : Below w.heap.size w w') : Sat w' L := by
  obtain ⟨l, h1, h2, h3⟩ := h
  exact ⟨l, h1, h2, fun b o hm => by rw [hb.block b (heap_lt (h3 b o hm))]; exact h3 b o hm⟩
theorem does_below {P : Program} {f : FuncId} {args : Array Value} {v : Value} (h : ∀ w, Calls P f args w fun e w' => e = .returned v ∧ Below w.heap.size w w') : Does P f args [] (Gives v []) := by
  intro w F hs
  refine (h w).mono ?_
  rintro e w' ⟨rfl, hb⟩
  exact ⟨[], ⟨rfl, rfl⟩, sat_below hs hb, hb.os, hb.tape, hb.output⟩
theorem does_same {P : Program} {f : FuncId} {args : Array Value} {v : Value} (h : ∀ w, Calls P f args w fun e w' => e = .returned v ∧ w' = w) : Does P f args [] (Gives v []) :=
  does_below fun w => (h w).mono fun e w' ⟨h1, h2⟩ => ⟨h1, h2 ▸ Below.refl _ _⟩
theorem does_drew {P : Program} {f : FuncId} {args : Array Value} {v : Value} (h : ∀ w, Calls P f args w fun e w' => e = .returned v ∧ (w' = w ∨ w' = w.drew)) : Does P f args [] (Gives v []) :=
  does_below fun w => (h w).mono fun e w' ⟨h1, h2⟩ => ⟨h1, by
    rcases h2 with rfl | rfl
    · exact Below.refl _ _
    · exact (Below.refl _ _).drew⟩
end Go.Sl
namespace Go.Sl
/-- a cell of a row is another one -/
theorem ow_storeRow {c : Cx} {ops : Array Oper} {Q : Exit → Act → World → Prop} {rest : List Oper} {env : List (Nat × Value)} {L M : List Asrt} {ty : TypeId} {pos : String} {af : Array Edge}
    {t : TypeId} {x y : Operand} {b o n cap size : Nat} {e : TypeId} {xs xs' : List Value} {v : Value}
    (ht : (match c.P.info? t with | some i => i.size == 1 | none => false) = true) (hx : evo env x = some (.pointer (some ⟨b, o, none⟩))) (hy : evo env y = some v) (h1 : v.oneCell' = true)
    (hL : Fnd L (rowA e size (.slice (some ⟨b, 0, none⟩) n cap) n xs) M) (ho : o < xs.length) (hc : xs.set o v = xs')
    (h : OW c ops Q rest env (rowA e size (.slice (some ⟨b, 0, none⟩) n cap) n xs' :: M)) : OW c ops Q (⟨none, .store t x y, ty, pos, af, none⟩ :: rest) env L := by
  intro a w hh
  obtain ⟨hl, hcase⟩ := rowA_cases (hL.sat hh.sat)
  rcases hcase with ⟨h0, _⟩ | ⟨b', cap', cur, h0, g1, g2, g3, g4, hs⟩
  · cases h0
  · simp only [Value.slice.injEq, Option.some.injEq, Addr.mk.injEq] at h0
    obtain ⟨⟨rfl, _, _⟩, _, rfl⟩ := h0
    have hlt : o < cur.length := by
      have : xs.length ≤ cur.length := by rw [← g4]; simp; omega
      omega
    refine ow_store (c := c) (L := pts b (.cells cur.toArray e (0, 0)) :: M) (M := M) (cs' := cur.set o v) ht hx hy h1 (by rw [Nat.blt_eq]; exact hlt) rfl (fun a w hh => ?_) a w ⟨hh.size, hh.slots, hh.defers, hs, hh.like⟩
    refine h a w ⟨hh.size, hh.slots, hh.defers, rowA_mk hh.sat g1 g2 (by simpa using g3) ?_, hh.like⟩
    rw [List.take_set, g4, hc]
end Go.Sl
