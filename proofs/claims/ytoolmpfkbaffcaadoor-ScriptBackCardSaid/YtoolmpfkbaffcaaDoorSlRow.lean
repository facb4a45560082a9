/- Rows of one's own: cut, read, written, copied on; facts among the pieces. -/
import Derived.Test.YtoolmpfkbaffcaaDoorSlMap
set_option linter.all false
namespace Go.Sl
open Go.BigFrame
section
variable {c : Cx} {ops : Array Oper} {Q : Exit → Act → World → Prop} {rest : List Oper} {env : List (Nat × Value)} {L M : List Asrt}
  {d : Tmp} {ty : TypeId} {pos : String} {af : Array Edge} {g : Option (Nat × Bool)} {dd : Option Tmp} {y : Code}

/-! ### slices cut -/
def cutA (a : Option Addr) (l m size : Nat) : Option Addr := if m = l then a else a.map (·.add (l * size))
theorem y_sliceH {t e n : TypeId} {x u : Operand} {a : Option Addr} {len cap : Nat} {k : IntKind} {hi : Int} (ht : tySlice c.P t e n = true) (hx : evo env x = some (.slice a len cap)) (hu : evo env u = some (.int k hi)) (hb : 0 ≤ hi ∧ hi ≤ cap) :
    Yields c ⟨dd, .slice t x none (some u) none, ty, pos, af, g⟩ env L (.slice a hi.toNat cap) := by
  intro a' w hh
  simp only [tySlice, Bool.and_eq_true] at ht
  obtain ⟨ht1, ht2⟩ := ht
  split at ht1
  case h_2 => cases ht1
  rename_i e' he
  split at ht2
  case h_2 => cases ht2
  rename_i i hi'
  simp only [beq_iff_eq] at ht1; subst ht1
  have : a.map (fun x : Addr => x.add (0 * i.size)) = a := by cases a <;> simp [Addr.add]
  simp only [execOp, hh.eval hx, hh.eval hu, Instr.sliceAt, Option.map_some, Option.map_none, Sem.run_bind, run_underlying he, Result.andThen_ok, Instr.slice, Instr.sliceBounds, Instr.sliceBound, asIntOf, Sem.run_pure]
  simp [hb.1, hb.2, sizeOf, typeInfo, hi', Addr.add]
theorem y_sliceHM {t e n : TypeId} {x u v : Operand} {a : Option Addr} {len cap : Nat} {k j : IntKind} {hi mx : Int} (ht : tySlice c.P t e n = true) (hx : evo env x = some (.slice a len cap)) (hu : evo env u = some (.int k hi)) (hv : evo env v = some (.int j mx)) (hb : 0 ≤ hi ∧ hi ≤ mx ∧ mx ≤ cap) :
    Yields c ⟨dd, .slice t x none (some u) (some v), ty, pos, af, g⟩ env L (.slice a hi.toNat mx.toNat) := by
  intro a' w hh
  simp only [tySlice, Bool.and_eq_true] at ht
  obtain ⟨ht1, ht2⟩ := ht
  split at ht1
  case h_2 => cases ht1
  rename_i e' he
  split at ht2
  case h_2 => cases ht2
  rename_i i hi'
  simp only [beq_iff_eq] at ht1; subst ht1
  have h1 : 0 ≤ mx := by omega
  have h2 : hi ≤ max mx 0 := by omega
  simp only [execOp, hh.eval hx, hh.eval hu, hh.eval hv, Instr.sliceAt, Option.map_some, Option.map_none, Sem.run_bind, run_underlying he, Result.andThen_ok, Instr.slice, Instr.sliceBounds, Instr.sliceBound, asIntOf, Sem.run_pure]
  simp [hb.1, hb.2, h1, h2, sizeOf, typeInfo, hi', Addr.add]
theorem y_sliceL {t e n : TypeId} {x u : Operand} {a : Option Addr} {len cap : Nat} {k : IntKind} {lo : Int} (ht : tySlice c.P t e n = true) (hx : evo env x = some (.slice a len cap)) (hu : evo env u = some (.int k lo)) (hb : 0 ≤ lo ∧ lo ≤ len) (hc : len ≤ cap) :
    Yields c ⟨dd, .slice t x (some u) none none, ty, pos, af, g⟩ env L (.slice (cutA a lo.toNat cap n) (len - lo.toNat) (cap - lo.toNat)) := by
  intro a' w hh
  simp only [tySlice, Bool.and_eq_true] at ht
  obtain ⟨ht1, ht2⟩ := ht
  split at ht1
  case h_2 => cases ht1
  rename_i e' he
  split at ht2
  case h_2 => cases ht2
  rename_i i hi'
  simp only [beq_iff_eq] at ht1 ht2; subst ht1; subst ht2
  simp only [execOp, hh.eval hx, hh.eval hu, Instr.sliceAt, Option.map_some, Option.map_none, Sem.run_bind, run_underlying he, Result.andThen_ok, Instr.slice, Instr.sliceBounds, Instr.sliceBound, asIntOf, Sem.run_pure]
  simp [hb.1, hb.2, sizeOf, typeInfo, hi', cutA]
theorem y_sliceLH {t e n : TypeId} {x u v : Operand} {a : Option Addr} {len cap : Nat} {k j : IntKind} {lo hi : Int} (ht : tySlice c.P t e n = true) (hx : evo env x = some (.slice a len cap)) (hu : evo env u = some (.int k lo)) (hv : evo env v = some (.int j hi)) (hb : 0 ≤ lo ∧ lo ≤ hi ∧ hi ≤ cap) :
    Yields c ⟨dd, .slice t x (some u) (some v) none, ty, pos, af, g⟩ env L (.slice (cutA a lo.toNat cap n) (hi.toNat - lo.toNat) (cap - lo.toNat)) := by
  intro a' w hh
  simp only [tySlice, Bool.and_eq_true] at ht
  obtain ⟨ht1, ht2⟩ := ht
  split at ht1
  case h_2 => cases ht1
  rename_i e' he
  split at ht2
  case h_2 => cases ht2
  rename_i i hi'
  simp only [beq_iff_eq] at ht1 ht2; subst ht1; subst ht2
  have h1 : 0 ≤ hi := by omega
  have h2 : lo ≤ max hi 0 := by omega
  simp only [execOp, hh.eval hx, hh.eval hu, hh.eval hv, Instr.sliceAt, Option.map_some, Option.map_none, Sem.run_bind, run_underlying he, Result.andThen_ok, Instr.slice, Instr.sliceBounds, Instr.sliceBound, asIntOf, Sem.run_pure]
  simp [hb.1, hb.2, h1, h2, sizeOf, typeInfo, hi', cutA]

/-! ### facts among the pieces -/
theorem cw_fact {p : Prop} (hL : Fnd L (fact p) M) (h : p → CW c y Q env L) : CW c y Q env L := fun a w hh => h (sat_fact.1 (hL.sat hh.sat)).1 a w hh
theorem ow_fact {p : Prop} (hL : Fnd L (fact p) M) (h : p → OW c ops Q rest env L) : OW c ops Q rest env L := fun a w hh => h (sat_fact.1 (hL.sat hh.sat)).1 a w hh
theorem sat_mkfact {p : Prop} (hp : p) (w : World) (h : Sat w L) : Sat w (fact p :: L) := sat_fact.2 ⟨hp, h⟩
theorem cw_ex {α : Type} {A : α → Asrt} (hL : Fnd L (ex A) M) (h : ∀ x, CW c y Q env (A x :: M)) : CW c y Q env L := fun a w hh => by
  obtain ⟨x, hs⟩ := sat_ex.1 (hL.sat hh.sat)
  exact h x a w ⟨hh.size, hh.slots, hh.defers, hs, hh.like⟩
theorem cw_star {N : List Asrt} (hL : Fnd L (star N) M) (h : CW c y Q env (N ++ M)) : CW c y Q env L := fun a w hh => h a w ⟨hh.size, hh.slots, hh.defers, sat_star.1 (hL.sat hh.sat), hh.like⟩
theorem cw_exs {α : Type} {N : α → List Asrt} (hL : Fnd L (ex fun x => star (N x)) M) (h : ∀ x, CW c y Q env (N x ++ M)) : CW c y Q env L := cw_ex hL fun x => cw_star Fnd.here (h x)
theorem ow_exs {α : Type} {N : α → List Asrt} (hL : Fnd L (ex fun x => star (N x)) M) (h : ∀ x, OW c ops Q rest env (N x ++ M)) : OW c ops Q rest env L := fun a w hh => by
  obtain ⟨x, hs⟩ := sat_ex.1 (hL.sat hh.sat)
  exact h x a w ⟨hh.size, hh.slots, hh.defers, sat_star.1 hs, hh.like⟩
/-- some of the pieces are said as one of which not all is told -/
theorem sat_exs {α : Type} {N : α → List Asrt} (x : α) (hL : Split L (N x) M) (w : World) (h : Sat w L) : Sat w ((ex fun x => star (N x)) :: M) := sat_ex.2 ⟨x, sat_star.2 (h.perm hL)⟩

/-! ### rows -/
/-- a row that has something in it has a block -/
theorem row_at {e : TypeId} {size : Nat} {v : Value} {n : Nat} {xs : List Value} {w : World} (h : Sat w (rowA e size v n xs :: L)) (hn : 0 < n) : ∃ b cap, v = .slice (some ⟨b, 0, none⟩) n cap ∧ n ≤ cap := by
  obtain ⟨_, hc⟩ := rowA_cases h
  rcases hc with ⟨_, rfl, _⟩ | ⟨b, cap, cur, rfl, h1, _⟩
  · omega
  · exact ⟨b, cap, rfl, h1⟩
theorem cw_rowv {e : TypeId} {size : Nat} {v : Value} {n : Nat} {xs : List Value} (hL : Fnd L (rowA e size v n xs) M) (hn : 0 < n) (h : ∀ b cap, v = .slice (some ⟨b, 0, none⟩) n cap → n ≤ cap → CW c y Q env L) : CW c y Q env L := fun a w hh => by
  obtain ⟨b, cap, hv, hc⟩ := row_at (hL.sat hh.sat) hn
  exact h b cap hv hc a w hh
theorem cw_rowany {e : TypeId} {size : Nat} {v : Value} {n : Nat} {xs : List Value} (hL : Fnd L (rowA e size v n xs) M) (h : ∀ p cap, v = .slice p n cap → n ≤ cap → xs.length = n * size → CW c y Q env L) : CW c y Q env L := fun a w hh => by
  obtain ⟨hl, hc⟩ := rowA_cases (hL.sat hh.sat)
  rcases hc with ⟨rfl, rfl, _⟩ | ⟨b, cap, cur, rfl, h1, _⟩
  · exact h none 0 rfl (Nat.le_refl _) hl a w hh
  · exact h _ cap rfl h1 hl a w hh
theorem y_loadRow {x : Operand} {t : TypeId} {b o cap n size : Nat} {e : TypeId} {xs : List Value} {v : Value} (ht : tyScalar c.P t = true) (hx : evo env x = some (.pointer (some ⟨b, o, none⟩)))
    (hL : Fnd L (rowA e size (.slice (some ⟨b, 0, none⟩) n cap) n xs) M) (hv : nth xs o = some v) : Yields c ⟨dd, .load t x, ty, pos, af, g⟩ env L v := by
  intro a w hh
  obtain ⟨hl, hc⟩ := rowA_cases (hL.sat hh.sat)
  rcases hc with ⟨h0, _⟩ | ⟨b', cap', cur, h0, h1, h2, h3, h4, hs⟩
  · cases h0
  · simp only [Value.slice.injEq, Option.some.injEq, Addr.mk.injEq] at h0
    obtain ⟨⟨rfl, _, _⟩, _, rfl⟩ := h0
    have hcur : nth cur o = some v := by
      rw [nth_eq] at hv ⊢
      rw [← h4] at hv
      rw [List.getElem?_take] at hv
      split at hv
      · exact hv
      · cases hv
    have : Fnd (pts b (.cells cur.toArray e (0, 0)) :: M) (pts b (.cells cur.toArray e (0, 0))) M := Fnd.here
    exact y_load (c := c) (L := pts b (.cells cur.toArray e (0, 0)) :: M) (M := M) (d := dd) (g := g) (ty := ty) (pos := pos) (af := af) ht hx hcur a w ⟨hh.size, hh.slots, hh.defers, hs, hh.like⟩
theorem row_shrink {e : TypeId} {size b n k cap : Nat} {xs : List Value} {w : World} (hk : k ≤ n) (h : Sat w (rowA e size (.slice (some ⟨b, 0, none⟩) n cap) n xs :: L)) : Sat w (rowA e size (.slice (some ⟨b, 0, none⟩) k cap) k (xs.take (k * size)) :: L) := by
  obtain ⟨hl, hc⟩ := rowA_cases h
  rcases hc with ⟨h0, _⟩ | ⟨b', cap', cur, h0, h1, h2, h3, h4, hs⟩
  · cases h0
  · simp only [Value.slice.injEq, Option.some.injEq, Addr.mk.injEq] at h0
    obtain ⟨⟨rfl, _, _⟩, _, rfl⟩ := h0
    refine rowA_mk hs (by omega) h2 h3 ?_
    rw [← h4, List.take_take, Nat.min_eq_left (Nat.mul_le_mul_right _ hk)]
end
end Go.Sl
namespace Go.Sl
/-- a contract among other pieces -/
theorem does_conv {P : Program} {f : FuncId} {args : Array Value} {Pre L M N N' R : List Asrt} {v : Value} (h : Does P f args Pre (Gives v N)) (hL : Split L Pre M) (hN : Split (N ++ M) N' R) : Does P f args L (Gives v N') := by
  intro w F hs
  have h1 : Sat w (Pre ++ [star (F :: M)]) := by
    have a1 : Sat w ((Pre ++ M) ++ [F]) := hs.perm (hL.append_right [F])
    have a2 : Sat w ((F :: M) ++ Pre) := a1.perm (by
      refine (List.perm_append_comm (l₁ := Pre ++ M) (l₂ := [F])).trans ?_
      exact (List.Perm.cons F (List.perm_append_comm (l₁ := Pre) (l₂ := M)) : (F :: (Pre ++ M)).Perm (F :: (M ++ Pre))))
    exact (sat_star.2 a2).perm (List.perm_append_comm (l₁ := [star (F :: M)]))
  refine (h w _ h1).mono ?_
  rintro e w' ⟨L', ⟨rfl, rfl⟩, hs', hl⟩
  have a1 : Sat w' ((F :: M) ++ L') := sat_star.1 (hs'.perm List.perm_append_comm)
  have a2 : Sat w' ((N' ++ R) ++ [F]) := by
    have a3 : Sat w' (F :: (L' ++ M)) := a1.perm (List.Perm.cons F List.perm_append_comm)
    exact (a3.perm (List.Perm.cons F hN)).perm (List.perm_append_comm (l₁ := [F]))
  have a4 : Sat w' (R ++ (N' ++ [F])) := a2.perm (by
    rw [List.append_assoc]
    exact (List.perm_append_comm (l₁ := N') (l₂ := R ++ [F])).trans (by rw [List.append_assoc]; exact List.Perm.append_left R List.perm_append_comm))
  exact ⟨N', ⟨rfl, rfl⟩, a4.drop, hl⟩
/-- the same, what comes back told in part -/
theorem does_convE {P : Program} {f : FuncId} {args : Array Value} {Pre L M : List Asrt} {X Y : Type} {p : X → Prop} {v : X → Value} {N : X → List Asrt} {p' : Y → Prop} {v' : Y → Value} {N' : Y → List Asrt} (h : Does P f args Pre (GivesE p v N)) (hL : Split L Pre M)
    (hN : ∀ x, p x → ∃ y, p' y ∧ v' y = v x ∧ ∃ R, Split (N x ++ M) (N' y) R) : Does P f args L (GivesE p' v' N') := by
  intro w F hs
  have h1 : Sat w (Pre ++ [star (F :: M)]) := by
    have a1 : Sat w ((Pre ++ M) ++ [F]) := hs.perm (hL.append_right [F])
    have a2 : Sat w ((F :: M) ++ Pre) := a1.perm (by
      refine (List.perm_append_comm (l₁ := Pre ++ M) (l₂ := [F])).trans ?_
      exact (List.Perm.cons F (List.perm_append_comm (l₁ := Pre) (l₂ := M)) : (F :: (Pre ++ M)).Perm (F :: (M ++ Pre))))
    exact (sat_star.2 a2).perm (List.perm_append_comm (l₁ := [star (F :: M)]))
  refine (h w _ h1).mono ?_
  rintro e w' ⟨L', ⟨x, hx, rfl, rfl⟩, hs', hl⟩
  obtain ⟨y, hy, hv, R, hR⟩ := hN x hx
  have a1 : Sat w' ((F :: M) ++ N x) := sat_star.1 (hs'.perm List.perm_append_comm)
  have a2 : Sat w' ((N' y ++ R) ++ [F]) := by
    have a3 : Sat w' (F :: (N x ++ M)) := a1.perm (List.Perm.cons F List.perm_append_comm)
    exact (a3.perm (List.Perm.cons F hR)).perm (List.perm_append_comm (l₁ := [F]))
  have a4 : Sat w' (R ++ (N' y ++ [F])) := a2.perm (by
    rw [List.append_assoc]
    exact (List.perm_append_comm (l₁ := N' y) (l₂ := R ++ [F])).trans (by rw [List.append_assoc]; exact List.Perm.append_left R List.perm_append_comm))
  exact ⟨N' y, ⟨y, hy, by rw [hv], rfl⟩, a4.drop, hl⟩
end Go.Sl
namespace Go.Sl
theorem does_pre {P : Program} {f : FuncId} {args : Array Value} {Pre Pre' : List Asrt} {Post : Ending → List Asrt → Prop} (hp : ∀ w F, Sat w (Pre' ++ F) → Sat w (Pre ++ F)) (h : Does P f args Pre Post) : Does P f args Pre' Post :=
  fun w F hs => h w F (hp w [F] hs)
theorem does_star {P : Program} {f : FuncId} {args : Array Value} {N M : List Asrt} {Post : Ending → List Asrt → Prop} (h : Does P f args (N ++ M) Post) : Does P f args (star N :: M) Post :=
  does_pre (fun w F hs => by
    have h1 : Sat w (star N :: (M ++ F)) := hs
    have h2 := sat_star.1 h1
    rwa [List.append_assoc]) h
theorem does_giveE {P : Program} {f : FuncId} {args : Array Value} {Pre N : List Asrt} {v : Value} {X : Type} {p : X → Prop} {v' : X → Value} {N' : X → List Asrt} (x : X) (hx : p x) (hv : v = v' x) (hN : N = N' x) (h : Does P f args Pre (Gives v N)) : Does P f args Pre (GivesE p v' N') :=
  fun w F hs => (h w F hs).mono fun e w' ⟨L', ⟨he, hL⟩, hs', hl⟩ => ⟨L', ⟨x, hx, by rw [he, hv], by rw [hL, hN]⟩, hs', hl⟩
theorem sat_unstar {w : World} {N M : List Asrt} : Sat w (star N :: M) ↔ Sat w (N ++ M) := sat_star
theorem Sat.re {w : World} {L M : List Asrt} (h : Sat w L) (hL : Split L M []) : Sat w M := by have := h.perm hL; rwa [List.append_nil] at this
end Go.Sl
namespace Go.Sl
theorem cw_shrink {c : Cx} {Q : Exit → Act → World → Prop} {env : List (Nat × Value)} {L M : List Asrt} {y : Code} {e : TypeId} {size b n k cap : Nat} {xs : List Value} (hL : Fnd L (rowA e size (.slice (some ⟨b, 0, none⟩) n cap) n xs) M) (hk : k ≤ n)
    (h : CW c y Q env (rowA e size (.slice (some ⟨b, 0, none⟩) k cap) k (xs.take (k * size)) :: M)) : CW c y Q env L := fun a w hh => h a w ⟨hh.size, hh.slots, hh.defers, row_shrink hk (hL.sat hh.sat), hh.like⟩
end Go.Sl
