/- Maps: a block of entries, as a list of pairs. -/
import Derived.Test.YtoolmpfkbaffcaaDoorSlRun
import Derived.MapKept
set_option linter.all false
namespace Go.Sl
open Go.Sb
open Go.BigFrame

/-- keys of a kind: they are held by their worth -/
structure KeyR (P : Program) (k : TypeId) {κ : Type} [DecidableEq κ] (ek : κ → Value) (ok : κ → Prop) : Prop where
  check : ∀ (w : World) (em : Bool) (x : κ), ok x → (Instr.checkKey em 10000 k (ek x)).run P w = .ok () w
  find : ∀ (w : World) (x : κ) (m : List (κ × MapEntry)), ok x → (∀ p ∈ m, ok p.1 ∧ p.2.key = ek p.1) →
    (Instr.findKey k (ek x) (m.map (·.2))).run P w = .ok ((m.findIdx? (fun p => decide (p.1 = x))).bind fun j => (m[j]?).map fun p => (j, p.2.val)) w
  stays : ∀ (w : World) (x : κ), ok x → (Instr.keyThatStays (ek x) (ek x)).run P w = .ok (ek x) w

/-- a map's block -/
def mapP {κ ν : Type} (b : Nat) (ek : κ → Value) (ev : ν → Value) (m : List (κ × ν)) : Asrt := fun l =>
  ∃ (es : List MapEntry) (clk : Nat), es.map (fun e => (e.key, e.val)) = m.map (fun p => (ek p.1, ev p.2)) ∧ (es.map (·.born)).Nodup ∧ (∀ e ∈ es, e.born < clk) ∧ l = [(b, .map es.toArray clk)]

theorem mapP_cases {κ ν : Type} {b : Nat} {ek : κ → Value} {ev : ν → Value} {m : List (κ × ν)} {w : World} {L : List Asrt} (h : Sat w (mapP b ek ev m :: L)) :
    ∃ (es : List MapEntry) (clk : Nat), es.map (fun e => (e.key, e.val)) = m.map (fun p => (ek p.1, ev p.2)) ∧ (es.map (·.born)).Nodup ∧ (∀ e ∈ es, e.born < clk) ∧ Sat w (pts b (.map es.toArray clk) :: L) := by
  obtain ⟨l, ⟨l1, l2, rfl, ⟨es, clk, a1, a2, a3, rfl⟩, h2⟩, hn, hh⟩ := h
  exact ⟨es, clk, a1, a2, a3, _, ⟨_, l2, rfl, rfl, h2⟩, hn, hh⟩
theorem mapP_mk {κ ν : Type} {b : Nat} {ek : κ → Value} {ev : ν → Value} {m : List (κ × ν)} {w : World} {L : List Asrt} {es : List MapEntry} {clk : Nat}
    (h1 : es.map (fun e => (e.key, e.val)) = m.map (fun p => (ek p.1, ev p.2))) (h2 : (es.map (·.born)).Nodup) (h3 : ∀ e ∈ es, e.born < clk) (h : Sat w (pts b (.map es.toArray clk) :: L)) : Sat w (mapP b ek ev m :: L) :=
  h.mono_head fun _ hl => ⟨es, clk, h1, h2, h3, hl⟩
theorem mapP_new {κ ν : Type} {b : Nat} (ek : κ → Value) (ev : ν → Value) {w : World} {L : List Asrt} (h : Sat w (pts b (.map #[] 0) :: L)) : Sat w (mapP b ek ev [] :: L) :=
  mapP_mk (es := []) (clk := 0) rfl (by simp) (by simp) h

theorem map_er {α β : Type} (f : α → β) : ∀ (l : List α) (j : Nat), (l.eraseIdx j).map f = (l.map f).eraseIdx j
  | [], _ => rfl
  | _ :: _, 0 => rfl
  | x :: l, j + 1 => by simp [map_er f l j]
section
variable {κ ν : Type} [DecidableEq κ] {ek : κ → Value} {ev : ν → Value}
/-- the entry of a key -/
theorem find_mget {x : κ} : ∀ {m : List (κ × ν)} {es : List MapEntry}, es.map (fun e => (e.key, e.val)) = m.map (fun p => (ek p.1, ev p.2)) →
    (match ((m.zip es).map fun q => (q.1.1, q.2)).findIdx? (fun p => decide (p.1 = x)) with
      | none => mget x m = none ∧ mdel x m = m ∧ ∀ v, mput x v m = m ++ [(x, v)]
      | some j => ∃ v e, mget x m = some v ∧ es[j]? = some e ∧ e.key = ek x ∧ e.val = ev v ∧ mdel x m = m.eraseIdx j ∧ ∀ u, mput x u m = m.set j (x, u)) := by
  intro m
  induction m with
  | nil => intro es h; simp [mget, mdel, mput]
  | cons p m ih =>
    intro es h
    cases es with
    | nil => simp at h
    | cons e es =>
      simp only [List.map_cons, List.cons.injEq, Prod.mk.injEq] at h
      obtain ⟨⟨hk, hv⟩, h⟩ := h
      obtain ⟨j, v⟩ := p
      simp only [List.zip_cons_cons, List.map_cons, List.findIdx?_cons]
      by_cases hx : j = x
      · subst hx
        simp only [decide_true, if_true]
        exact ⟨v, e, by simp [mget], by simp, hk, hv, by simp [mdel], fun u => by simp [mput]⟩
      · have i := ih h
        simp only [hx, decide_false, Bool.false_eq_true, if_false]
        cases hf : ((m.zip es).map fun q => (q.1.1, q.2)).findIdx? (fun p => decide (p.1 = x)) with
        | none =>
          rw [hf] at i
          simp only [Option.map_none]
          exact ⟨by simp [mget, hx, i.1], by simp [mdel, hx, i.2.1], fun u => by simp [mput, hx, i.2.2 u]⟩
        | some k =>
          rw [hf] at i
          obtain ⟨v', e', i1, i2, i3, i4, i5, i6⟩ := i
          simp only [Option.map_some]
          exact ⟨v', e', by simp [mget, hx, i1], by simpa using i2, i3, i4, by simp [mdel, hx, i5], fun u => by simp [mput, hx, i6 u]⟩
theorem zip_ok {ok : κ → Prop} {m : List (κ × ν)} {es : List MapEntry} (hm : ∀ p ∈ m, ok p.1) (h : es.map (fun e => (e.key, e.val)) = m.map (fun p => (ek p.1, ev p.2))) :
    (((m.zip es).map fun q => (q.1.1, q.2)).map (·.2)) = es ∧ ∀ p ∈ ((m.zip es).map fun q => (q.1.1, q.2)), ok p.1 ∧ p.2.key = ek p.1 := by
  induction m generalizing es with
  | nil => simp at h; subst h; simp
  | cons p m ih =>
    cases es with
    | nil => simp at h
    | cons e es =>
      simp only [List.map_cons, List.cons.injEq, Prod.mk.injEq] at h
      obtain ⟨i1, i2⟩ := ih (fun q hq => hm q (List.mem_cons_of_mem _ hq)) h.2
      refine ⟨by simpa using i1, ?_⟩
      intro q hq
      simp only [List.zip_cons_cons, List.map_cons, List.mem_cons] at hq
      rcases hq with rfl | hq
      · exact ⟨hm p List.mem_cons_self, h.1.1⟩
      · exact i2 q hq
end

section
variable {c : Cx} {ops : Array Oper} {Q : Exit → Act → World → Prop} {rest : List Oper} {env : List (Nat × Value)} {L M : List Asrt}
  {d : Tmp} {ty : TypeId} {pos : String} {af : Array Edge} {g : Option (Nat × Bool)} {dd : Option Tmp}
  {κ ν : Type} [DecidableEq κ] {ek : κ → Value} {ev : ν → Value} {ok : κ → Prop}

theorem run_findKey {P : Program} {kt : TypeId} (K : KeyR P kt ek ok) {m : List (κ × ν)} {es : List MapEntry} (hm : ∀ p ∈ m, ok p.1) (h : es.map (fun e => (e.key, e.val)) = m.map (fun p => (ek p.1, ev p.2))) (x : κ) (hx : ok x) (w : World) :
    (mget x m = none ∧ mdel x m = m ∧ (∀ v, mput x v m = m ++ [(x, v)]) ∧ (Instr.findKey kt (ek x) es).run P w = .ok none w) ∨
    (∃ j v e, mget x m = some v ∧ es[j]? = some e ∧ e.key = ek x ∧ e.val = ev v ∧ mdel x m = m.eraseIdx j ∧ (∀ u, mput x u m = m.set j (x, u)) ∧ (Instr.findKey kt (ek x) es).run P w = .ok (some (j, ev v)) w) := by
  obtain ⟨z1, z2⟩ := zip_ok hm h
  have hf := K.find w x ((m.zip es).map fun q => (q.1.1, q.2)) hx z2
  rw [z1] at hf
  have hfm := find_mget (x := x) h
  cases hi : ((m.zip es).map fun q => (q.1.1, q.2)).findIdx? (fun p => decide (p.1 = x)) with
  | none =>
    rw [hi] at hfm hf
    exact .inl ⟨hfm.1, hfm.2.1, hfm.2.2, by rw [hf]; rfl⟩
  | some j =>
    rw [hi] at hfm hf
    obtain ⟨v, e, a1, a2, a3, a4, a5, a6⟩ := hfm
    refine .inr ⟨j, v, e, a1, a2, a3, a4, a5, a6, ?_⟩
    rw [hf]
    have hz : ((m.zip es).map fun q => (q.1.1, q.2)).map (·.2) = es := z1
    have : (((m.zip es).map fun q => (q.1.1, q.2))[j]?).map (·.2) = some e := by rw [← List.getElem?_map, hz, a2]
    obtain ⟨q, hq, rfl⟩ := Option.map_eq_some_iff.1 this
    simp only [Option.bind_some, hq, Option.map_some, a4]

theorem run_lookup {P : Program} {t kt et : TypeId} {z : Value} (ht : tyMap P t kt et = true) (K : KeyR P kt ek ok) (hz : (match P.info? et with | some i => i.zero | none => none) = some z)
    {m : List (κ × ν)} {es : List MapEntry} {clk b : Nat} (hm : ∀ p ∈ m, ok p.1) (h : es.map (fun e => (e.key, e.val)) = m.map (fun p => (ek p.1, ev p.2))) {w : World} (hh : w.heap[b]? = some (.map es.toArray clk)) (x : κ) (hx : ok x) (co : Bool) :
    (Instr.lookup t (.map (some b)) (ek x) co).run P w = .ok (if co then .tuple #[((mget x m).map ev).getD z, .bool (mget x m).isSome] else ((mget x m).map ev).getD z) w := by
  unfold tyMap at ht
  split at ht
  case h_2 => cases ht
  rename_i y z' hu
  simp only [Bool.and_eq_true, beq_iff_eq] at ht
  obtain ⟨rfl, rfl⟩ := ht
  split at hz
  case h_2 => cases hz
  rename_i i hi
  have hck := K.check w es.toArray.isEmpty x hx
  have hzr : (zeroValue z').run P w = .ok z w := by simp [zeroValue, typeInfo, hi, hz]
  rcases run_findKey K hm h x hx w with ⟨a1, _, _, a4⟩ | ⟨j, v, e, a1, _, _, _, _, _, a4⟩
  · simp only [Instr.lookup, Sem.run_bind, run_underlying hu, Result.andThen_ok, Go.MapKept.run_getObj_map hh, Sem.run_pure, hck, a4, hzr, a1, Option.map_none, Option.getD_none, Option.isSome_none]
  · simp only [Instr.lookup, Sem.run_bind, run_underlying hu, Result.andThen_ok, Go.MapKept.run_getObj_map hh, Sem.run_pure, hck, a4, hzr, a1, Option.map_some, Option.getD_some, Option.isSome_some]

def tyZero (P : Program) (e : TypeId) : Option Value := match P.info? e with | some i => i.zero | none => none
/-- a look-up -/
theorem y_lookup {t kt et b : Nat} {z : Value} {x y : Operand} {k : κ} {m : List (κ × ν)} {co : Bool} (ht : tyMap c.P t kt et = true) (K : KeyR c.P kt ek ok) (hm : ∀ p ∈ m, ok p.1) (hk : ok k) (hz : (match c.P.info? et with | some i => i.zero | none => none) = some z)
    (hx : evo env x = some (.map (some b))) (hy : evo env y = some (ek k)) (hL : Fnd L (mapP b ek ev m) M) :
    Yields c ⟨dd, .lookup t x y co, ty, pos, af, g⟩ env L (if co then .tuple #[((mget k m).map ev).getD z, .bool (mget k m).isSome] else ((mget k m).map ev).getD z) := by
  intro a w hh
  obtain ⟨es, clk, h1, h2, h3, hs⟩ := mapP_cases (hL.sat hh.sat)
  have := run_lookup ht K hz hm h1 hs.pts k hk co
  simp only [execOp, hh.eval hx, hh.eval hy, Sem.run_bind, this, Result.andThen_ok, Sem.run_pure]
/-- a look-up, as it is to be told -/
theorem y_look1 {t kt et b : Nat} {z : Value} {x y : Operand} {k : κ} {m : List (κ × ν)} {f : Option ν → Value} (ht : tyMap c.P t kt et = true) (K : KeyR c.P kt ek ok) (hm : ∀ p ∈ m, ok p.1) (hk : ok k) (hz : (match c.P.info? et with | some i => i.zero | none => none) = some z)
    (hx : evo env x = some (.map (some b))) (hy : evo env y = some (ek k)) (hL : Fnd L (mapP b ek ev m) M) (hf : ∀ o : Option ν, (o.map ev).getD z = f o) :
    Yields c ⟨dd, .lookup t x y false, ty, pos, af, g⟩ env L (f (mget k m)) := by
  have := y_lookup (c := c) (dd := dd) (ty := ty) (pos := pos) (af := af) (g := g) (co := false) ht K hm hk hz hx hy hL
  simpa [hf] using this
theorem y_look2 {t kt et b : Nat} {z : Value} {x y : Operand} {k : κ} {m : List (κ × ν)} {f : Option ν → Value} (ht : tyMap c.P t kt et = true) (K : KeyR c.P kt ek ok) (hm : ∀ p ∈ m, ok p.1) (hk : ok k) (hz : (match c.P.info? et with | some i => i.zero | none => none) = some z)
    (hx : evo env x = some (.map (some b))) (hy : evo env y = some (ek k)) (hL : Fnd L (mapP b ek ev m) M) (hf : ∀ o : Option ν, (o.map ev).getD z = f o) :
    Yields c ⟨dd, .lookup t x y true, ty, pos, af, g⟩ env L (.tuple #[f (mget k m), .bool (mget k m).isSome]) := by
  have := y_lookup (c := c) (dd := dd) (ty := ty) (pos := pos) (af := af) (g := g) (co := true) ht K hm hk hz hx hy hL
  simpa [hf] using this
theorem y_mlen {t kt et b : Nat} {x : Operand} {m : List (κ × ν)} (ht : tyMap c.P t kt et = true) (hx : evo env x = some (.map (some b))) (hL : Fnd L (mapP b ek ev m) M) :
    Yields c ⟨dd, .call { callee := .builtin .len, args := #[x], argTypes := #[t] }, ty, pos, af, g⟩ env L (.int .i64 m.length) := by
  intro a w hh
  obtain ⟨es, clk, h1, h2, h3, hs⟩ := mapP_cases (hL.sat hh.sat)
  have hl : es.length = m.length := by simpa using congrArg List.length h1
  have hb := hs.pts
  unfold tyMap at ht
  split at ht
  · rename_i y z hu
    rw [execOp_builtin, builtin_len]
    simp [hh.eval hx, Builtin.len_, run_underlying hu, goInt, getObj, Sem.run, hb, hl]
  · simp at ht
theorem setIf_put {w : World} {b : Nat} {o : Obj} : ({ w with heap := w.heap.setIfInBounds b o } : World) = put w b o := rfl
theorem modify_set {es : List MapEntry} {j : Nat} {e : MapEntry} {f : MapEntry → MapEntry} (h : es[j]? = some e) : (es.toArray.modify j f) = (es.set j (f e)).toArray := by
  apply Array.ext
  · simp
  · intro k h1 h2
    simp at h1
    rw [Array.getElem_modify]
    simp only [List.getElem_toArray, List.getElem_set]
    split
    · rename_i hk; subst hk
      rw [List.getElem?_eq_getElem h1] at h
      rw [Option.some.inj h]
    · rfl
theorem ow_mapPut {t kt et b : Nat} {x y u : Operand} {k : κ} {v : ν} {m : List (κ × ν)} (ht : tyMap c.P t kt et = true) (K : KeyR c.P kt ek ok) (hm : ∀ p ∈ m, ok p.1) (hk : ok k)
    (hx : evo env x = some (.map (some b))) (hy : evo env y = some (ek k)) (hu' : evo env u = some (ev v)) (hL : Fnd L (mapP b ek ev m) M)
    (h : OW c ops Q rest env (mapP b ek ev (mput k v m) :: M)) : OW c ops Q (⟨none, .mapUpdate t x y u, ty, pos, af, none⟩ :: rest) env L := by
  intro a w hh
  obtain ⟨es, clk, h1, h2, h3, hs⟩ := mapP_cases (hL.sat hh.sat)
  have hb := hs.pts
  unfold tyMap at ht
  split at ht
  case h_2 => cases ht
  rename_i y' z' hu
  simp only [Bool.and_eq_true, beq_iff_eq] at ht
  obtain ⟨rfl, rfl⟩ := ht
  have hck := K.check w false k hk
  refine wpList_plain rfl fun N hN => ?_
  unfold Oper.wp
  rcases run_findKey K hm h1 k hk w with ⟨a1, _, a3, a4⟩ | ⟨j, v0, e, a1, a2, a3, a4, a5, a6, a7⟩
  · have hrun : (Instr.mapUpdate t (.map (some b)) (ek k) (ev v)).run c.P w = .ok () (put w b (.map (es ++ [({ key := ek k, val := ev v, born := clk } : MapEntry)]).toArray (clk + 1))) := by
      simp only [Instr.mapUpdate, Sem.run_bind, run_underlying hu, Result.andThen_ok, Go.MapKept.run_getObj_map hb, hck, a4, Go.MapKept.run_setObj_map _ hb, setIf_put, List.push_toArray]
    simp only [execOp, hh.eval hx, hh.eval hy, hh.eval hu', Sem.run_bind, hrun, Result.andThen_ok, Sem.run_pure, Oper.upon]
    refine hN _ _ (h _ _ ⟨hh.size, hh.slots, hh.defers, mapP_mk (es := es ++ [({ key := ek k, val := ev v, born := clk } : MapEntry)]) (clk := clk + 1) ?_ ?_ ?_ hs.put, hh.like.put _ _⟩)
    · rw [a3]; simp [h1]
    · rw [List.map_append, List.nodup_append]
      refine ⟨h2, by simp, ?_⟩
      intro x hx y hy e
      obtain ⟨e', he', rfl⟩ := List.mem_map.1 hx
      simp at hy; subst hy
      have := h3 e' he'
      omega
    · intro e he
      rcases List.mem_append.1 he with he | he
      · have := h3 e he; omega
      · simp at he; subst he; simp
  · have hst := K.stays w k hk
    have hrun : (Instr.mapUpdate t (.map (some b)) (ek k) (ev v)).run c.P w = .ok () (put w b (.map (es.set j ({ key := ek k, val := ev v, born := e.born } : MapEntry)).toArray clk)) := by
      have ha : ((es.toArray[j]?).map (·.key)).getD (ek k) = ek k := by simp [a2, a3]
      have hm : (es.toArray.modify j fun e => { e with key := ek k, val := ev v }) = (es.set j ({ key := ek k, val := ev v, born := e.born } : MapEntry)).toArray := modify_set a2
      simp only [Instr.mapUpdate, Sem.run_bind, run_underlying hu, Result.andThen_ok, Go.MapKept.run_getObj_map hb, hck, a7, ha, hst, hm, Go.MapKept.run_setObj_map _ hb, setIf_put]
    simp only [execOp, hh.eval hx, hh.eval hy, hh.eval hu', Sem.run_bind, hrun, Result.andThen_ok, Sem.run_pure, Oper.upon]
    have hbn : (es.set j ({ key := ek k, val := ev v, born := e.born } : MapEntry)).map (·.born) = es.map (·.born) := by
      rw [List.map_set]
      apply List.ext_getElem?
      intro i
      rw [List.getElem?_set]
      split
      · rename_i hi; subst hi
        split <;> simp_all
      · rfl
    refine hN _ _ (h _ _ ⟨hh.size, hh.slots, hh.defers, mapP_mk (es := es.set j ({ key := ek k, val := ev v, born := e.born } : MapEntry)) (clk := clk) ?_ ?_ ?_ hs.put, hh.like.put _ _⟩)
    · rw [a6, List.map_set, List.map_set, h1]
    · rw [hbn]; exact h2
    · intro e' he'
      rcases List.mem_or_eq_of_mem_set he' with he' | rfl
      · exact h3 e' he'
      · exact h3 e (List.mem_of_getElem? a2)
theorem ow_mapDel {t kt et b : Nat} {kt' : Nat} {x y : Operand} {k : κ} {m : List (κ × ν)} (ht : tyMap c.P t kt et = true) (K : KeyR c.P kt ek ok) (hm : ∀ p ∈ m, ok p.1) (hk : ok k)
    (hx : evo env x = some (.map (some b))) (hy : evo env y = some (ek k)) (hL : Fnd L (mapP b ek ev m) M)
    (h : OW c ops Q rest env (mapP b ek ev (mdel k m) :: M)) : OW c ops Q (⟨none, .call { callee := .builtin .delete, args := #[x, y], argTypes := #[t, kt'] }, ty, pos, af, none⟩ :: rest) env L := by
  intro a w hh
  obtain ⟨es, clk, h1, h2, h3, hs⟩ := mapP_cases (hL.sat hh.sat)
  have hb := hs.pts
  unfold tyMap at ht
  split at ht
  case h_2 => cases ht
  rename_i y' z' hu
  simp only [Bool.and_eq_true, beq_iff_eq] at ht
  obtain ⟨rfl, rfl⟩ := ht
  have hck := K.check w es.toArray.isEmpty k hk
  refine wpList_plain rfl fun N hN => ?_
  unfold Oper.wp
  rw [execOp_builtin]
  rcases run_findKey K hm h1 k hk w with ⟨a1, a2, a3, a4⟩ | ⟨j, v0, e, a1, a2, a3, a4, a5, a6, a7⟩
  · have hrun : (Builtin.delete_ #[t, kt'] ty #[.map (some b), ek k]).run c.P w = .ok (.tuple #[]) (put w b (.map es.toArray clk)) := by
      have hck' : (Instr.checkKey es.isEmpty 10000 y' (ek k)).run c.P w = .ok () w := by simpa using hck
      simp [Builtin.delete_, run_underlying hu, Go.MapKept.run_getObj_map hb, hck', a4, Go.MapKept.run_setObj_map _ hb, setIf_put]
    simp only [builtin_delete, List.map_toArray, List.map_cons, List.map_nil, hh.eval hx, hh.eval hy, Sem.run_bind, hrun, Result.andThen_ok, Sem.run_pure, Oper.upon]
    exact hN _ _ (h _ _ ⟨hh.size, hh.slots, hh.defers, by rw [a2]; exact mapP_mk h1 h2 h3 hs.put, hh.like.put _ _⟩)
  · have hj : j < es.length := by
      rcases Nat.lt_or_ge j es.length with h' | h'
      · exact h'
      · rw [List.getElem?_eq_none h'] at a2; cases a2
    have hrun : (Builtin.delete_ #[t, kt'] ty #[.map (some b), ek k]).run c.P w = .ok (.tuple #[]) (put w b (.map (es.eraseIdx j).toArray clk)) := by
      have hck' : (Instr.checkKey es.isEmpty 10000 y' (ek k)).run c.P w = .ok () w := by simpa using hck
      have he : es.toArray.eraseIdxIfInBounds j = (es.eraseIdx j).toArray := by simp
      simp [Builtin.delete_, run_underlying hu, Go.MapKept.run_getObj_map hb, hck', a7, Go.MapKept.run_setObj_map _ hb, setIf_put]
    simp only [builtin_delete, List.map_toArray, List.map_cons, List.map_nil, hh.eval hx, hh.eval hy, Sem.run_bind, hrun, Result.andThen_ok, Sem.run_pure, Oper.upon]
    refine hN _ _ (h _ _ ⟨hh.size, hh.slots, hh.defers, mapP_mk (es := es.eraseIdx j) (clk := clk) ?_ ?_ ?_ hs.put, hh.like.put _ _⟩)
    · rw [a5, map_er, map_er, h1]
    · rw [map_er]; exact h2.sublist (List.eraseIdx_sublist _ _)
    · exact fun e he => h3 e ((List.eraseIdx_sublist _ _).mem he)
/-! ### keys -/
theorem findNow_int {P : Program} {k : IntKind} {x : Int} : ∀ (m : List (Int × MapEntry)), (∀ p ∈ m, p.2.key = .int k p.1) → ∀ i, Instr.findNow (.int k) (.int k x) (m.map (·.2)) i = some ((m.findIdx? (fun p => decide (p.1 = x))).bind fun j => (m[j]?).map fun p => (j + i, p.2.val)) := by
  intro m
  induction m with
  | nil => intro _ i; rfl
  | cons p m ih =>
    intro h i
    have hp := h p (by simp)
    simp only [List.map_cons, Instr.findNow, hp, Instr.sameNow, if_true, List.findIdx?_cons]
    by_cases hx : p.1 = x
    · subst hx; simp
    · have hx' : (x == p.1) = false := by simp [Ne.symm hx]
      simp only [hx', hx, decide_false, Bool.false_eq_true, if_false]
      rw [ih (fun q hq => h q (by simp [hq])) (i + 1)]
      cases m.findIdx? (fun p => decide (p.1 = x)) with
      | none => simp
      | some j =>
        simp only [Option.bind_some, Option.map_some, List.getElem?_cons_succ]
        rw [show j + (i + 1) = j + 1 + i by omega]
theorem keyR_int {P : Program} {t : TypeId} {k : IntKind} (ht : tyInt P t k = true) : KeyR P t (fun x : Int => .int k x) (fun _ => True) where
  check w em x _ := by
    unfold tyInt at ht
    split at ht
    case h_2 => cases ht
    rename_i j hu
    have key : ∀ n, (Instr.checkKey em (n + 1) t (.int k x)).run P w = .ok () w := fun n => by
      simp only [Instr.checkKey, Sem.run_bind, run_underlying hu, Result.andThen_ok, Sem.run_pure]
    exact key 9999
  find w x m _ h := by
    unfold tyInt at ht
    split at ht
    case h_2 => cases ht
    rename_i j hu
    simp only [beq_iff_eq] at ht; subst ht
    simp only [Instr.findKey, Sem.run_bind, run_underlying hu, Result.andThen_ok, findNow_int (P := P) m (fun p hp => (h p hp).2) 0, Sem.run_pure, Nat.add_zero]
  stays w x _ := by
    have key : ∀ n, Instr.sameBits (n + 1) (.int k x) (.int k x) = true := fun n => by
      have h1 : (k == k) = true := by cases k <;> rfl
      show (k == k && x == x) = true
      rw [h1, Bool.true_and]; exact beq_self_eq_true x
    unfold Instr.keyThatStays
    rw [if_pos (key 9999)]
    rfl
end
end Go.Sl
