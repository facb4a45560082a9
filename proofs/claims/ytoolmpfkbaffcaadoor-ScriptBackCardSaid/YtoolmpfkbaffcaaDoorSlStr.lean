/- Texts held beside each other, as propositions; contracts over what was there. -/
import Derived.Test.YtoolmpfkbaffcaaDoorSlKey
import Derived.Test.YtoolmpfkbaffcaaDoorSlShelf
import Derived.Test.YtoolmpfkbaffcaaDoorSlApp
import Derived.Stop.IfaceNil
set_option linter.all false
namespace Go.Sl
open Go.RowKit
variable {c : Cx} {env : List (Nat × Value)} {L : List Asrt} {d : Option Tmp} {ty : TypeId} {pos : String} {af : Array Edge} {g : Option (Nat × Bool)}
theorem str_beq (p q : ByteArray) : (p.toList == q.toList) = decide (p = q) := by
  rw [ByteArray.toList_eq, ByteArray.toList_eq]
  by_cases h : p = q
  · subst h; simp
  · rw [decide_eq_false h]
    have : p.data.toList ≠ q.data.toList := fun e => h (Go.WideShapes.bytes_inj e)
    simpa using this
theorem y_str_eqlD {x y : Operand} {t yt : TypeId} {p q : ByteArray} (hx : evo env x = some (.string p)) (hy : evo env y = some (.string q)) :
    Yields c ⟨d, .binOp .eql t x y yt, ty, pos, af, g⟩ env L (.bool (decide (p = q))) := by
  have := @y_str_eql c env L d ty pos af g x y t yt p q hx hy
  rwa [str_beq] at this
theorem y_str_neqD {x y : Operand} {t yt : TypeId} {p q : ByteArray} (hx : evo env x = some (.string p)) (hy : evo env y = some (.string q)) :
    Yields c ⟨d, .binOp .neq t x y yt, ty, pos, af, g⟩ env L (.bool (!decide (p = q))) := by
  have := @y_str_neq c env L d ty pos af g x y t yt p q hx hy
  rwa [str_beq] at this
end Go.Sl
namespace Go.Sl
open Go.RowKit
theorem var_whole {P : Program} {W w : World} {L : List Asrt} {name : String} {cs : Array Value} (h : Sat w (whole W :: L)) (hv : W.var? P name = some cs) : w.var? P name = some cs := by
  unfold World.var? at *
  cases hg : P.globalNamed name with
  | none => rw [hg] at hv; cases hv
  | some g =>
    rw [hg] at hv
    simp only [Option.bind_some] at hv ⊢
    have hlt : g < W.heap.size := by
      rcases Nat.lt_or_ge g W.heap.size with h | h
      · exact h
      · rw [Array.getElem?_eq_none h] at hv; simp at hv
    rw [h.whole_block g hlt]; exact hv
/-- it reads what was there, and leaves it -/
theorem does_readE {P : Program} {f : FuncId} {args : Array Value} {W : World} {X : Type} {p : X → Prop} {v : X → Value} (h : ∀ w L, Sat w (whole W :: L) → Calls P f args w fun e w' => (∃ x, p x ∧ e = .returned (v x)) ∧ Below w.heap.size w w') :
    Does P f args [whole W] (GivesE p v fun _ => [whole W]) := by
  intro w F hs
  refine (h w [F] hs).mono ?_
  rintro e w' ⟨⟨x, hp, rfl⟩, hb⟩
  exact ⟨[whole W], ⟨x, hp, rfl, rfl⟩, sat_below hs hb, hb.os, hb.tape, hb.output⟩
theorem does_read {P : Program} {f : FuncId} {args : Array Value} {W : World} {v : Value} (h : ∀ w L, Sat w (whole W :: L) → Calls P f args w fun e w' => e = .returned v ∧ Below w.heap.size w w') : Does P f args [whole W] (Gives v [whole W]) := by
  intro w F hs
  refine (h w [F] hs).mono ?_
  rintro e w' ⟨rfl, hb⟩
  exact ⟨[whole W], ⟨rfl, rfl⟩, sat_below hs hb, hb.os, hb.tape, hb.output⟩
/-- it lays one new row, and reads what was there -/
theorem does_lay {P : Program} {f : FuncId} {args : Array Value} {W : World} {v : Nat → Value} {o : Obj} (h : ∀ w L, Sat w (whole W :: L) → Calls P f args w fun e w' => e = .returned (v w.heap.size) ∧ w' = w.alloc o) :
    Does P f args [whole W] (GivesE (fun _ : Nat => True) v fun b => [pts b o, whole W]) := by
  intro w F hs
  refine (h w [F] hs).mono ?_
  rintro e w' ⟨rfl, rfl⟩
  exact ⟨_, ⟨w.heap.size, trivial, rfl, rfl⟩, hs.alloc o, rfl, rfl, rfl⟩
end Go.Sl
namespace Go.Sl
variable {c : Cx} {env : List (Nat × Value)} {L : List Asrt} {d : Option Tmp} {ty : TypeId} {pos : String} {af : Array Edge} {g : Option (Nat × Bool)}
/-- an error, held beside 'nil' -/
theorem y_err {x : Operand} {t yt u : TypeId} {v : Value} (ht : c.P.isIface t = true) (hx : evo env x = some (.iface u v)) :
    Yields c ⟨d, .binOp .neq t x (.const .nilIface) yt, ty, pos, af, g⟩ env L (.bool true) := by
  intro a w h
  have e : (binOp .neq t (.iface u v) .nilIface).run c.P w = .ok (.bool true) w := run_neq_iface_nil w t ht u v
  have g : ∀ z, eqGuard .neq t x z (.iface u v) .nilIface = pure () := fun z => rfl
  simp [execOp, h.eval hx, show ∀ v, a.eval (.const v) = v from fun _ => rfl, e, g]
theorem y_noErr {x : Operand} {t yt : TypeId} (ht : c.P.isIface t = true) (hx : evo env x = some .nilIface) :
    Yields c ⟨d, .binOp .neq t x (.const .nilIface) yt, ty, pos, af, g⟩ env L (.bool false) := by
  intro a w h
  have e : (binOp .neq t .nilIface .nilIface).run c.P w = .ok (.bool false) w := run_neq_nil_nil_at w t ht
  have g : eqGuard .neq t x (.const .nilIface) .nilIface .nilIface = pure () := by
    unfold eqGuard; simp
  simp [execOp, h.eval hx, show ∀ v, a.eval (.const v) = v from fun _ => rfl, e, g]
end Go.Sl
namespace Go.Sl
/-- a row that a literal makes is a slice of one's own -/
theorem sat_rowNew {e : TypeId} {b n : Nat} {cs : List Value} {w : World} {L : List Asrt} (hn : cs.length = n) (hm : n ≤ maxLen) (h : Sat w (pts b (.cells cs.toArray e (0, 0)) :: L)) :
    Sat w (rowA e 1 (.slice (some ⟨b, 0, none⟩) n n) n cs :: L) :=
  rowA_mk h (Nat.le_refl _) hm (by simpa using hn) (by rw [List.take_of_length_le]; simp; omega)
end Go.Sl
namespace Go.Sl
/-- what the first row's slice is, ahead of a call -/
theorem does_rowany {P : Program} {f : FuncId} {args : Array Value} {e : TypeId} {size n : Nat} {v : Value} {xs : List Value} {L : List Asrt} {Post : Ending → List Asrt → Prop}
    (h : ∀ p cap, v = .slice p n cap → Does P f args (rowA e size v n xs :: L) Post) : Does P f args (rowA e size v n xs :: L) Post := by
  intro w F hs
  obtain ⟨_, hc⟩ := rowA_cases hs
  rcases hc with ⟨h0, h1, _⟩ | ⟨g, cap, _, h0, _⟩
  · exact h none 0 (by rw [h0, h1]) w F hs
  · exact h _ cap h0 w F hs
theorem does_rowany2 {P : Program} {f : FuncId} {args : Array Value} {e : TypeId} {size n : Nat} {A : Asrt} {v : Value} {xs : List Value} {L : List Asrt} {Post : Ending → List Asrt → Prop}
    (h : ∀ p cap, v = .slice p n cap → Does P f args (A :: rowA e size v n xs :: L) Post) : Does P f args (A :: rowA e size v n xs :: L) Post := by
  intro w F hs
  have hs2 : Sat w (rowA e size v n xs :: A :: (L ++ [F])) := hs.perm (Split.cons (Fnd.there Fnd.here) (Split.cons Fnd.here Split.nil)) |> fun h => by simpa using h
  obtain ⟨_, hc⟩ := rowA_cases hs2
  rcases hc with ⟨h0, h1, _⟩ | ⟨g, cap, _, h0, _⟩
  · exact h none 0 (by rw [h0, h1]) w F hs
  · exact h _ cap h0 w F hs
end Go.Sl
