/- Part of the proof; no statement of its own: SlMap, SlRow, SlKey, CRF0F, A42F, A36F, A33F, A12F, A11F, A9F, A41F. -/
import Derived.Test.YthlclfdnhnnebaaGreatDoorB05
import Derived.MapKept
import Derived.DeepKeys4
import Derived.Test.YthlclfdnhnnebaaGreatDoorProg
import Derived.KernelRfl
set_option linter.all false
section
namespace Go.Sl
open Go.Sb
open Go.BigFrame
structure KeyR (P : Program) (k : TypeId) {κ : Type} [DecidableEq κ] (ek : κ → Value) (ok : κ → Prop) : Prop where
  check : ∀ (w : World) (em : Bool) (x : κ), ok x → (Instr.checkKey em 10000 k (ek x)).run P w = .ok () w
  find : ∀ (w : World) (x : κ) (m : List (κ × MapEntry)), ok x → (∀ p ∈ m, ok p.1 ∧ p.2.key = ek p.1) →
    (Instr.findKey k (ek x) (m.map (·.2))).run P w = .ok ((m.findIdx? (fun p => decide (p.1 = x))).bind fun j => (m[j]?).map fun p => (j, p.2.val)) w
  stays : ∀ (w : World) (x : κ), ok x → (Instr.keyThatStays (ek x) (ek x)).run P w = .ok (ek x) w
def mapP {κ ν : Type} (b : Nat) (ek : κ → Value) (ev : ν → Value) (m : List (κ × ν)) : Asrt := fun l =>
  ∃ (es : List MapEntry) (clk : Nat), es.map (fun e => (e.key, e.val)) = m.map (fun p => (ek p.1, ev p.2)) ∧ (es.map (·.born)).Nodup ∧ (∀ e ∈ es, e.born < clk) ∧ l = [(b, .map es.toArray clk)]
theorem mapP_cases {κ ν : Type} {b : Nat} {ek : κ → Value} {ev : ν → Value} {m : List (κ × ν)} {w : World} {L : List Asrt} (h : Sat w (mapP b ek ev m :: L)) :
    ∃ (es : List MapEntry) (clk : Nat), es.map (fun e => (e.key, e.val)) = m.map (fun p => (ek p.1, ev p.2)) ∧ (es.map (·.born)).Nodup ∧ (∀ e ∈ es, e.born < clk) ∧ Sat w (pts b (.map es.toArray clk) :: L) := by
  obtain ⟨l, ⟨l1, l2, rfl, ⟨es, clk, a1, a2, a3, rfl⟩, h2⟩, hn, hh⟩ := h
  exact ⟨es, clk, a1, a2, a3, _, ⟨_, l2, rfl, rfl, h2⟩, hn, hh⟩
theorem mapP_mk {κ ν : Type} {b : Nat} {ek : κ → Value} {ev : ν → Value} {m : List (κ × ν)} {w : World} {L : List Asrt} {es : List MapEntry} {clk : Nat}
    (h1 : es.map (fun e => (e.key, e.val)) = m.map (fun p => (ek p.1, ev p.2))) (h2 : (es.map (·.born)).Nodup) (h3 : ∀ e ∈ es, e.born < clk) (h : Sat w (pts b (.map es.toArray clk) :: L)) : Sat w (mapP b ek ev m :: L) :=
  h.mono_head fun _ hl => ⟨es, clk, h1, h2, h3, hl⟩
theorem mapP_new {κ ν : Type} {b : Nat} (ek : κ → Value) (ev : ν → Value) {w : World} {L : List Asrt} (h : Sat w (pts b (.map #[] 0) :: L)) : Sat w (mapP b ek ev [] :: L) :=
  mapP_mk (es := []) (clk := 0) rfl (by simp) (by simp) h
theorem map_er {α β : Type} (f : α → β) : ∀ (l : List α) (j : Nat), (l.eraseIdx j).map f = (l.map f).eraseIdx j
  | [], _ => rfl
  | _ :: _, 0 => rfl
  | x :: l, j + 1 => by simp [map_er f l j]
section
variable {κ ν : Type} [DecidableEq κ] {ek : κ → Value} {ev : ν → Value}
theorem find_mget {x : κ} : ∀ {m : List (κ × ν)} {es : List MapEntry}, es.map (fun e => (e.key, e.val)) = m.map (fun p => (ek p.1, ev p.2)) →
    (match ((m.zip es).map fun q => (q.1.1, q.2)).findIdx? (fun p => decide (p.1 = x)) with
      | none => mget x m = none ∧ mdel x m = m ∧ ∀ v, mput x v m = m ++ [(x, v)]
      | some j => ∃ v e, mget x m = some v ∧ es[j]? = some e ∧ e.key = ek x ∧ e.val = ev v ∧ mdel x m = m.eraseIdx j ∧ ∀ u, mput x u m = m.set j (x, u)) := by
  intro m
  induction m with
  | nil => intro es h; simp [mget, mdel, mput]
  | cons p m ih =>
    intro es h
    cases es with
    | nil => simp at h
    | cons e es =>
      simp only [List.map_cons, List.cons.injEq, Prod.mk.injEq] at h
      obtain ⟨⟨hk, hv⟩, h⟩ := h
      obtain ⟨j, v⟩ := p
      simp only [List.zip_cons_cons, List.map_cons, List.findIdx?_cons]
      by_cases hx : j = x
      · subst hx
        simp only [decide_true, if_true]
        exact ⟨v, e, by simp [mget], by simp, hk, hv, by simp [mdel], fun u => by simp [mput]⟩
      · have i := ih h
        simp only [hx, decide_false, Bool.false_eq_true, if_false]
        cases hf : ((m.zip es).map fun q => (q.1.1, q.2)).findIdx? (fun p => decide (p.1 = x)) with
        | none =>
          rw [hf] at i
          simp only [Option.map_none]
          exact ⟨by simp [mget, hx, i.1], by simp [mdel, hx, i.2.1], fun u => by simp [mput, hx, i.2.2 u]⟩
        | some k =>
          rw [hf] at i
          obtain ⟨v', e', i1, i2, i3, i4, i5, i6⟩ := i
          simp only [Option.map_some]
          exact ⟨v', e', by simp [mget, hx, i1], by simpa using i2, i3, i4, by simp [mdel, hx, i5], fun u => by simp [mput, hx, i6 u]⟩
theorem zip_ok {ok : κ → Prop} {m : List (κ × ν)} {es : List MapEntry} (hm : ∀ p ∈ m, ok p.1) (h : es.map (fun e => (e.key, e.val)) = m.map (fun p => (ek p.1, ev p.2))) :
    (((m.zip es).map fun q => (q.1.1, q.2)).map (·.2)) = es ∧ ∀ p ∈ ((m.zip es).map fun q => (q.1.1, q.2)), ok p.1 ∧ p.2.key = ek p.1 := by
  induction m generalizing es with
  | nil => simp at h; subst h; simp
  | cons p m ih =>
    cases es with
    | nil => simp at h
    | cons e es =>
      simp only [List.map_cons, List.cons.injEq, Prod.mk.injEq] at h
      obtain ⟨i1, i2⟩ := ih (fun q hq => hm q (List.mem_cons_of_mem _ hq)) h.2
      refine ⟨by simpa using i1, ?_⟩
      intro q hq
      simp only [List.zip_cons_cons, List.map_cons, List.mem_cons] at hq
      rcases hq with rfl | hq
      · exact ⟨hm p List.mem_cons_self, h.1.1⟩
      · exact i2 q hq
end
section
variable {c : Cx} {ops : Array Oper} {Q : Exit → Act → World → Prop} {rest : List Oper} {env : List (Nat × Value)} {L M : List Asrt}
  {d : Tmp} {ty : TypeId} {pos : String} {af : Array Edge} {g : Option (Nat × Bool)} {dd : Option Tmp}
  {κ ν : Type} [DecidableEq κ] {ek : κ → Value} {ev : ν → Value} {ok : κ → Prop}
theorem run_findKey {P : Program} {kt : TypeId} (K : KeyR P kt ek ok) {m : List (κ × ν)} {es : List MapEntry} (hm : ∀ p ∈ m, ok p.1) (h : es.map (fun e => (e.key, e.val)) = m.map (fun p => (ek p.1, ev p.2))) (x : κ) (hx : ok x) (w : World) :
    (mget x m = none ∧ mdel x m = m ∧ (∀ v, mput x v m = m ++ [(x, v)]) ∧ (Instr.findKey kt (ek x) es).run P w = .ok none w) ∨
    (∃ j v e, mget x m = some v ∧ es[j]? = some e ∧ e.key = ek x ∧ e.val = ev v ∧ mdel x m = m.eraseIdx j ∧ (∀ u, mput x u m = m.set j (x, u)) ∧ (Instr.findKey kt (ek x) es).run P w = .ok (some (j, ev v)) w) := by
  obtain ⟨z1, z2⟩ := zip_ok hm h
  have hf := K.find w x ((m.zip es).map fun q => (q.1.1, q.2)) hx z2
  rw [z1] at hf
  have hfm := find_mget (x := x) h
  cases hi : ((m.zip es).map fun q => (q.1.1, q.2)).findIdx? (fun p => decide (p.1 = x)) with
  | none =>
    rw [hi] at hfm hf
    exact .inl ⟨hfm.1, hfm.2.1, hfm.2.2, by rw [hf]; rfl⟩
  | some j =>
    rw [hi] at hfm hf
    obtain ⟨v, e, a1, a2, a3, a4, a5, a6⟩ := hfm
    refine .inr ⟨j, v, e, a1, a2, a3, a4, a5, a6, ?_⟩
    rw [hf]
    have hz : ((m.zip es).map fun q => (q.1.1, q.2)).map (·.2) = es := z1
    have : (((m.zip es).map fun q => (q.1.1, q.2))[j]?).map (·.2) = some e := by rw [← List.getElem?_map, hz, a2]
    obtain ⟨q, hq, rfl⟩ := Option.map_eq_some_iff.1 this
    simp only [Option.bind_some, hq, Option.map_some, a4]
theorem run_lookup {P : Program} {t kt et : TypeId} {z : Value} (ht : tyMap P t kt et = true) (K : KeyR P kt ek ok) (hz : (match P.info? et with | some i => i.zero | none => none) = some z)
    {m : List (κ × ν)} {es : List MapEntry} {clk b : Nat} (hm : ∀ p ∈ m, ok p.1) (h : es.map (fun e => (e.key, e.val)) = m.map (fun p => (ek p.1, ev p.2))) {w : World} (hh : w.heap[b]? = some (.map es.toArray clk)) (x : κ) (hx : ok x) (co : Bool) :
    (Instr.lookup t (.map (some b)) (ek x) co).run P w = .ok (if co then .tuple #[((mget x m).map ev).getD z, .bool (mget x m).isSome] else ((mget x m).map ev).getD z) w := by
  unfold tyMap at ht
  split at ht
  case h_2 => cases ht
  rename_i y z' hu
  simp only [Bool.and_eq_true, beq_iff_eq] at ht
  obtain ⟨rfl, rfl⟩ := ht
  split at hz
  case h_2 => cases hz
  rename_i i hi
  have hck := K.check w es.toArray.isEmpty x hx
  have hzr : (zeroValue z').run P w = .ok z w := by simp [zeroValue, typeInfo, hi, hz]
  rcases run_findKey K hm h x hx w with ⟨a1, _, _, a4⟩ | ⟨j, v, e, a1, _, _, _, _, _, a4⟩
  · simp only [Instr.lookup, Sem.run_bind, run_underlying hu, Result.andThen_ok, Go.MapKept.run_getObj_map hh, Sem.run_pure, hck, a4, hzr, a1, Option.map_none, Option.getD_none, Option.isSome_none]
  · simp only [Instr.lookup, Sem.run_bind, run_underlying hu, Result.andThen_ok, Go.MapKept.run_getObj_map hh, Sem.run_pure, hck, a4, hzr, a1, Option.map_some, Option.getD_some, Option.isSome_some]
theorem y_lookup {t kt et b : Nat} {z : Value} {x y : Operand} {k : κ} {m : List (κ × ν)} {co : Bool} (ht : tyMap c.P t kt et = true) (K : KeyR c.P kt ek ok) (hm : ∀ p ∈ m, ok p.1) (hk : ok k) (hz : (match c.P.info? et with | some i => i.zero | none => none) = some z)
    (hx : evo env x = some (.map (some b))) (hy : evo env y = some (ek k)) (hL : Fnd L (mapP b ek ev m) M) :
    Yields c ⟨dd, .lookup t x y co, ty, pos, af, g⟩ env L (if co then .tuple #[((mget k m).map ev).getD z, .bool (mget k m).isSome] else ((mget k m).map ev).getD z) := by
  intro a w hh
  obtain ⟨es, clk, h1, h2, h3, hs⟩ := mapP_cases (hL.sat hh.sat)
  have := run_lookup ht K hz hm h1 hs.pts k hk co
  simp only [execOp, hh.eval hx, hh.eval hy, Sem.run_bind, this, Result.andThen_ok, Sem.run_pure]
theorem y_look1 {t kt et b : Nat} {z : Value} {x y : Operand} {k : κ} {m : List (κ × ν)} {f : Option ν → Value} (ht : tyMap c.P t kt et = true) (K : KeyR c.P kt ek ok) (hm : ∀ p ∈ m, ok p.1) (hk : ok k) (hz : (match c.P.info? et with | some i => i.zero | none => none) = some z)
    (hx : evo env x = some (.map (some b))) (hy : evo env y = some (ek k)) (hL : Fnd L (mapP b ek ev m) M) (hf : ∀ o : Option ν, (o.map ev).getD z = f o) :
    Yields c ⟨dd, .lookup t x y false, ty, pos, af, g⟩ env L (f (mget k m)) := by
  have := y_lookup (c := c) (dd := dd) (ty := ty) (pos := pos) (af := af) (g := g) (co := false) ht K hm hk hz hx hy hL
  simpa [hf] using this
theorem y_look2 {t kt et b : Nat} {z : Value} {x y : Operand} {k : κ} {m : List (κ × ν)} {f : Option ν → Value} (ht : tyMap c.P t kt et = true) (K : KeyR c.P kt ek ok) (hm : ∀ p ∈ m, ok p.1) (hk : ok k) (hz : (match c.P.info? et with | some i => i.zero | none => none) = some z)
    (hx : evo env x = some (.map (some b))) (hy : evo env y = some (ek k)) (hL : Fnd L (mapP b ek ev m) M) (hf : ∀ o : Option ν, (o.map ev).getD z = f o) :
    Yields c ⟨dd, .lookup t x y true, ty, pos, af, g⟩ env L (.tuple #[f (mget k m), .bool (mget k m).isSome]) := by
  have := y_lookup (c := c) (dd := dd) (ty := ty) (pos := pos) (af := af) (g := g) (co := true) ht K hm hk hz hx hy hL
  simpa [hf] using this
theorem y_mlen {t kt et b : Nat} {x : Operand} {m : List (κ × ν)} (ht : tyMap c.P t kt et = true) (hx : evo env x = some (.map (some b))) (hL : Fnd L (mapP b ek ev m) M) :
    Yields c ⟨dd, .call { callee := .builtin .len, args := #[x], argTypes := #[t] }, ty, pos, af, g⟩ env L (.int .i64 m.length) := by
  intro a w hh
  obtain ⟨es, clk, h1, h2, h3, hs⟩ := mapP_cases (hL.sat hh.sat)
  have hl : es.length = m.length := by simpa using congrArg List.length h1
  have hb := hs.pts
  unfold tyMap at ht
  split at ht
  · rename_i y z hu
    rw [execOp_builtin, builtin_len]
    simp [hh.eval hx, Builtin.len_, run_underlying hu, goInt, getObj, Sem.run, hb, hl]
  · simp at ht
theorem setIf_put {w : World} {b : Nat} {o : Obj} : ({ w with heap := w.heap.setIfInBounds b o } : World) = put w b o := rfl
theorem modify_set {es : List MapEntry} {j : Nat} {e : MapEntry} {f : MapEntry → MapEntry} (h : es[j]? = some e) : (es.toArray.modify j f) = (es.set j (f e)).toArray := by
  apply Array.ext
  · simp
  · intro k h1 h2
    simp at h1
    rw [Array.getElem_modify]
    simp only [List.getElem_toArray, List.getElem_set]
    split
    · rename_i hk; subst hk
      rw [List.getElem?_eq_getElem h1] at h
      rw [Option.some.inj h]
    · rfl
theorem ow_mapPut {t kt et b : Nat} {x y u : Operand} {k : κ} {v : ν} {m : List (κ × ν)} (ht : tyMap c.P t kt et = true) (K : KeyR c.P kt ek ok) (hm : ∀ p ∈ m, ok p.1) (hk : ok k)
    (hx : evo env x = some (.map (some b))) (hy : evo env y = some (ek k)) (hu' : evo env u = some (ev v)) (hL : Fnd L (mapP b ek ev m) M)
    (h : OW c ops Q rest env (mapP b ek ev (mput k v m) :: M)) : OW c ops Q (⟨none, .mapUpdate t x y u, ty, pos, af, none⟩ :: rest) env L := by
  intro a w hh
  obtain ⟨es, clk, h1, h2, h3, hs⟩ := mapP_cases (hL.sat hh.sat)
  have hb := hs.pts
  unfold tyMap at ht
  split at ht
  case h_2 => cases ht
  rename_i y' z' hu
  simp only [Bool.and_eq_true, beq_iff_eq] at ht
  obtain ⟨rfl, rfl⟩ := ht
  have hck := K.check w false k hk
  refine wpList_plain rfl fun N hN => ?_
  unfold Oper.wp
  rcases run_findKey K hm h1 k hk w with ⟨a1, _, a3, a4⟩ | ⟨j, v0, e, a1, a2, a3, a4, a5, a6, a7⟩
  · have hrun : (Instr.mapUpdate t (.map (some b)) (ek k) (ev v)).run c.P w = .ok () (put w b (.map (es ++ [({ key := ek k, val := ev v, born := clk } : MapEntry)]).toArray (clk + 1))) := by
      simp only [Instr.mapUpdate, Sem.run_bind, run_underlying hu, Result.andThen_ok, Go.MapKept.run_getObj_map hb, hck, a4, Go.MapKept.run_setObj_map _ hb, setIf_put, List.push_toArray]
    simp only [execOp, hh.eval hx, hh.eval hy, hh.eval hu', Sem.run_bind, hrun, Result.andThen_ok, Sem.run_pure, Oper.upon]
    refine hN _ _ (h _ _ ⟨hh.size, hh.slots, hh.defers, mapP_mk (es := es ++ [({ key := ek k, val := ev v, born := clk } : MapEntry)]) (clk := clk + 1) ?_ ?_ ?_ hs.put, hh.like.put _ _⟩)
    · rw [a3]; simp [h1]
    · rw [List.map_append, List.nodup_append]
      refine ⟨h2, by simp, ?_⟩
      intro x hx y hy e
      obtain ⟨e', he', rfl⟩ := List.mem_map.1 hx
      simp at hy; subst hy
      have := h3 e' he'
      omega
    · intro e he
      rcases List.mem_append.1 he with he | he
      · have := h3 e he; omega
      · simp at he; subst he; simp
  · have hst := K.stays w k hk
    have hrun : (Instr.mapUpdate t (.map (some b)) (ek k) (ev v)).run c.P w = .ok () (put w b (.map (es.set j ({ key := ek k, val := ev v, born := e.born } : MapEntry)).toArray clk)) := by
      have ha : ((es.toArray[j]?).map (·.key)).getD (ek k) = ek k := by simp [a2, a3]
      have hm : (es.toArray.modify j fun e => { e with key := ek k, val := ev v }) = (es.set j ({ key := ek k, val := ev v, born := e.born } : MapEntry)).toArray := modify_set a2
      simp only [Instr.mapUpdate, Sem.run_bind, run_underlying hu, Result.andThen_ok, Go.MapKept.run_getObj_map hb, hck, a7, ha, hst, hm, Go.MapKept.run_setObj_map _ hb, setIf_put]
    simp only [execOp, hh.eval hx, hh.eval hy, hh.eval hu', Sem.run_bind, hrun, Result.andThen_ok, Sem.run_pure, Oper.upon]
    have hbn : (es.set j ({ key := ek k, val := ev v, born := e.born } : MapEntry)).map (·.born) = es.map (·.born) := by
      rw [List.map_set]
      apply List.ext_getElem?
      intro i
      rw [List.getElem?_set]
      split
      · rename_i hi; subst hi
        split <;> simp_all
      · rfl
    refine hN _ _ (h _ _ ⟨hh.size, hh.slots, hh.defers, mapP_mk (es := es.set j ({ key := ek k, val := ev v, born := e.born } : MapEntry)) (clk := clk) ?_ ?_ ?_ hs.put, hh.like.put _ _⟩)
    · rw [a6, List.map_set, List.map_set, h1]
    · rw [hbn]; exact h2
    · intro e' he'
      rcases List.mem_or_eq_of_mem_set he' with he' | rfl
      · exact h3 e' he'
      · exact h3 e (List.mem_of_getElem? a2)
theorem ow_mapDel {t kt et b : Nat} {kt' : Nat} {x y : Operand} {k : κ} {m : List (κ × ν)} (ht : tyMap c.P t kt et = true) (K : KeyR c.P kt ek ok) (hm : ∀ p ∈ m, ok p.1) (hk : ok k)
    (hx : evo env x = some (.map (some b))) (hy : evo env y = some (ek k)) (hL : Fnd L (mapP b ek ev m) M)
    (h : OW c ops Q rest env (mapP b ek ev (mdel k m) :: M)) : OW c ops Q (⟨none, .call { callee := .builtin .delete, args := #[x, y], argTypes := #[t, kt'] }, ty, pos, af, none⟩ :: rest) env L := by
  intro a w hh
  obtain ⟨es, clk, h1, h2, h3, hs⟩ := mapP_cases (hL.sat hh.sat)
  have hb := hs.pts
  unfold tyMap at ht
  split at ht
  case h_2 => cases ht
  rename_i y' z' hu
  simp only [Bool.and_eq_true, beq_iff_eq] at ht
  obtain ⟨rfl, rfl⟩ := ht
  have hck := K.check w es.toArray.isEmpty k hk
  refine wpList_plain rfl fun N hN => ?_
  unfold Oper.wp
  rw [execOp_builtin]
  rcases run_findKey K hm h1 k hk w with ⟨a1, a2, a3, a4⟩ | ⟨j, v0, e, a1, a2, a3, a4, a5, a6, a7⟩
  · have hrun : (Builtin.delete_ #[t, kt'] ty #[.map (some b), ek k]).run c.P w = .ok (.tuple #[]) (put w b (.map es.toArray clk)) := by
      have hck' : (Instr.checkKey es.isEmpty 10000 y' (ek k)).run c.P w = .ok () w := by simpa using hck
      simp [Builtin.delete_, run_underlying hu, Go.MapKept.run_getObj_map hb, hck', a4, Go.MapKept.run_setObj_map _ hb, setIf_put]
    simp only [builtin_delete, List.map_toArray, List.map_cons, List.map_nil, hh.eval hx, hh.eval hy, Sem.run_bind, hrun, Result.andThen_ok, Sem.run_pure, Oper.upon]
    exact hN _ _ (h _ _ ⟨hh.size, hh.slots, hh.defers, by rw [a2]; exact mapP_mk h1 h2 h3 hs.put, hh.like.put _ _⟩)
  · have hj : j < es.length := by
      rcases Nat.lt_or_ge j es.length with h' | h'
      · exact h'
      · rw [List.getElem?_eq_none h'] at a2; cases a2
    have hrun : (Builtin.delete_ #[t, kt'] ty #[.map (some b), ek k]).run c.P w = .ok (.tuple #[]) (put w b (.map (es.eraseIdx j).toArray clk)) := by
      have hck' : (Instr.checkKey es.isEmpty 10000 y' (ek k)).run c.P w = .ok () w := by simpa using hck
      have he : es.toArray.eraseIdxIfInBounds j = (es.eraseIdx j).toArray := by simp
      simp [Builtin.delete_, run_underlying hu, Go.MapKept.run_getObj_map hb, hck', a7, Go.MapKept.run_setObj_map _ hb, setIf_put]
    simp only [builtin_delete, List.map_toArray, List.map_cons, List.map_nil, hh.eval hx, hh.eval hy, Sem.run_bind, hrun, Result.andThen_ok, Sem.run_pure, Oper.upon]
    refine hN _ _ (h _ _ ⟨hh.size, hh.slots, hh.defers, mapP_mk (es := es.eraseIdx j) (clk := clk) ?_ ?_ ?_ hs.put, hh.like.put _ _⟩)
    · rw [a5, map_er, map_er, h1]
    · rw [map_er]; exact h2.sublist (List.eraseIdx_sublist _ _)
    · exact fun e he => h3 e ((List.eraseIdx_sublist _ _).mem he)
theorem findNow_int {P : Program} {k : IntKind} {x : Int} : ∀ (m : List (Int × MapEntry)), (∀ p ∈ m, p.2.key = .int k p.1) → ∀ i, Instr.findNow (.int k) (.int k x) (m.map (·.2)) i = some ((m.findIdx? (fun p => decide (p.1 = x))).bind fun j => (m[j]?).map fun p => (j + i, p.2.val)) := by
  intro m
  induction m with
  | nil => intro _ i; rfl
  | cons p m ih =>
    intro h i
    have hp := h p (by simp)
    simp only [List.map_cons, Instr.findNow, hp, Instr.sameNow, if_true, List.findIdx?_cons]
    by_cases hx : p.1 = x
    · subst hx; simp
    · have hx' : (x == p.1) = false := by simp [Ne.symm hx]
      simp only [hx', hx, decide_false, Bool.false_eq_true, if_false]
      rw [ih (fun q hq => h q (by simp [hq])) (i + 1)]
      cases m.findIdx? (fun p => decide (p.1 = x)) with
      | none => simp
      | some j =>
        simp only [Option.bind_some, Option.map_some, List.getElem?_cons_succ]
        rw [show j + (i + 1) = j + 1 + i by omega]
theorem keyR_int {P : Program} {t : TypeId} {k : IntKind} (ht : tyInt P t k = true) : KeyR P t (fun x : Int => .int k x) (fun _ => True) where
  check w em x _ := by
    unfold tyInt at ht
    split at ht
    case h_2 => cases ht
    rename_i j hu
    have key : ∀ n, (Instr.checkKey em (n + 1) t (.int k x)).run P w = .ok () w := fun n => by
      simp only [Instr.checkKey, Sem.run_bind, run_underlying hu, Result.andThen_ok, Sem.run_pure]
    exact key 9999
  find w x m _ h := by
    unfold tyInt at ht
    split at ht
    case h_2 => cases ht
    rename_i j hu
    simp only [beq_iff_eq] at ht; subst ht
    simp only [Instr.findKey, Sem.run_bind, run_underlying hu, Result.andThen_ok, findNow_int (P := P) m (fun p hp => (h p hp).2) 0, Sem.run_pure, Nat.add_zero]
  stays w x _ := by
    have key : ∀ n, Instr.sameBits (n + 1) (.int k x) (.int k x) = true := fun n => by
      have h1 : (k == k) = true := by cases k <;> rfl
      show (k == k && x == x) = true
      rw [h1, Bool.true_and]; exact beq_self_eq_true x
    unfold Instr.keyThatStays
    rw [if_pos (key 9999)]
    rfl
end
end Go.Sl
end
section
namespace Go.Sl
open Go.BigFrame
section
variable {c : Cx} {ops : Array Oper} {Q : Exit → Act → World → Prop} {rest : List Oper} {env : List (Nat × Value)} {L M : List Asrt}
  {d : Tmp} {ty : TypeId} {pos : String} {af : Array Edge} {g : Option (Nat × Bool)} {dd : Option Tmp} {y : Code}
def cutA (a : Option Addr) (l m size : Nat) : Option Addr := if m = l then a else a.map (·.add (l * size))
theorem y_sliceH {t e n : TypeId} {x u : Operand} {a : Option Addr} {len cap : Nat} {k : IntKind} {hi : Int} (ht : tySlice c.P t e n = true) (hx : evo env x = some (.slice a len cap)) (hu : evo env u = some (.int k hi)) (hb : 0 ≤ hi ∧ hi ≤ cap) :
    Yields c ⟨dd, .slice t x none (some u) none, ty, pos, af, g⟩ env L (.slice a hi.toNat cap) := by
  intro a' w hh
  simp only [tySlice, Bool.and_eq_true] at ht
  obtain ⟨ht1, ht2⟩ := ht
  split at ht1
  case h_2 => cases ht1
  rename_i e' he
  split at ht2
  case h_2 => cases ht2
  rename_i i hi'
  simp only [beq_iff_eq] at ht1; subst ht1
  have : a.map (fun x : Addr => x.add (0 * i.size)) = a := by cases a <;> simp [Addr.add]
  simp only [execOp, hh.eval hx, hh.eval hu, Instr.sliceAt, Option.map_some, Option.map_none, Sem.run_bind, run_underlying he, Result.andThen_ok, Instr.slice, Instr.sliceBounds, Instr.sliceBound, asIntOf, Sem.run_pure]
  simp [hb.1, hb.2, sizeOf, typeInfo, hi', Addr.add]
theorem y_sliceHM {t e n : TypeId} {x u v : Operand} {a : Option Addr} {len cap : Nat} {k j : IntKind} {hi mx : Int} (ht : tySlice c.P t e n = true) (hx : evo env x = some (.slice a len cap)) (hu : evo env u = some (.int k hi)) (hv : evo env v = some (.int j mx)) (hb : 0 ≤ hi ∧ hi ≤ mx ∧ mx ≤ cap) :
    Yields c ⟨dd, .slice t x none (some u) (some v), ty, pos, af, g⟩ env L (.slice a hi.toNat mx.toNat) := by
  intro a' w hh
  simp only [tySlice, Bool.and_eq_true] at ht
  obtain ⟨ht1, ht2⟩ := ht
  split at ht1
  case h_2 => cases ht1
  rename_i e' he
  split at ht2
  case h_2 => cases ht2
  rename_i i hi'
  simp only [beq_iff_eq] at ht1; subst ht1
  have h1 : 0 ≤ mx := by omega
  have h2 : hi ≤ max mx 0 := by omega
  simp only [execOp, hh.eval hx, hh.eval hu, hh.eval hv, Instr.sliceAt, Option.map_some, Option.map_none, Sem.run_bind, run_underlying he, Result.andThen_ok, Instr.slice, Instr.sliceBounds, Instr.sliceBound, asIntOf, Sem.run_pure]
  simp [hb.1, hb.2, h1, h2, sizeOf, typeInfo, hi', Addr.add]
theorem y_sliceL {t e n : TypeId} {x u : Operand} {a : Option Addr} {len cap : Nat} {k : IntKind} {lo : Int} (ht : tySlice c.P t e n = true) (hx : evo env x = some (.slice a len cap)) (hu : evo env u = some (.int k lo)) (hb : 0 ≤ lo ∧ lo ≤ len) (hc : len ≤ cap) :
    Yields c ⟨dd, .slice t x (some u) none none, ty, pos, af, g⟩ env L (.slice (cutA a lo.toNat cap n) (len - lo.toNat) (cap - lo.toNat)) := by
  intro a' w hh
  simp only [tySlice, Bool.and_eq_true] at ht
  obtain ⟨ht1, ht2⟩ := ht
  split at ht1
  case h_2 => cases ht1
  rename_i e' he
  split at ht2
  case h_2 => cases ht2
  rename_i i hi'
  simp only [beq_iff_eq] at ht1 ht2; subst ht1; subst ht2
  simp only [execOp, hh.eval hx, hh.eval hu, Instr.sliceAt, Option.map_some, Option.map_none, Sem.run_bind, run_underlying he, Result.andThen_ok, Instr.slice, Instr.sliceBounds, Instr.sliceBound, asIntOf, Sem.run_pure]
  simp [hb.1, hb.2, sizeOf, typeInfo, hi', cutA]
theorem cw_fact {p : Prop} (hL : Fnd L (fact p) M) (h : p → CW c y Q env L) : CW c y Q env L := fun a w hh => h (sat_fact.1 (hL.sat hh.sat)).1 a w hh
theorem sat_mkfact {p : Prop} (hp : p) (w : World) (h : Sat w L) : Sat w (fact p :: L) := sat_fact.2 ⟨hp, h⟩
theorem cw_ex {α : Type} {A : α → Asrt} (hL : Fnd L (ex A) M) (h : ∀ x, CW c y Q env (A x :: M)) : CW c y Q env L := fun a w hh => by
  obtain ⟨x, hs⟩ := sat_ex.1 (hL.sat hh.sat)
  exact h x a w ⟨hh.size, hh.slots, hh.defers, hs, hh.like⟩
theorem cw_star {N : List Asrt} (hL : Fnd L (star N) M) (h : CW c y Q env (N ++ M)) : CW c y Q env L := fun a w hh => h a w ⟨hh.size, hh.slots, hh.defers, sat_star.1 (hL.sat hh.sat), hh.like⟩
theorem cw_exs {α : Type} {N : α → List Asrt} (hL : Fnd L (ex fun x => star (N x)) M) (h : ∀ x, CW c y Q env (N x ++ M)) : CW c y Q env L := cw_ex hL fun x => cw_star Fnd.here (h x)
theorem row_at {e : TypeId} {size : Nat} {v : Value} {n : Nat} {xs : List Value} {w : World} (h : Sat w (rowA e size v n xs :: L)) (hn : 0 < n) : ∃ b cap, v = .slice (some ⟨b, 0, none⟩) n cap ∧ n ≤ cap := by
  obtain ⟨_, hc⟩ := rowA_cases h
  rcases hc with ⟨_, rfl, _⟩ | ⟨b, cap, cur, rfl, h1, _⟩
  · omega
  · exact ⟨b, cap, rfl, h1⟩
theorem cw_rowv {e : TypeId} {size : Nat} {v : Value} {n : Nat} {xs : List Value} (hL : Fnd L (rowA e size v n xs) M) (hn : 0 < n) (h : ∀ b cap, v = .slice (some ⟨b, 0, none⟩) n cap → n ≤ cap → CW c y Q env L) : CW c y Q env L := fun a w hh => by
  obtain ⟨b, cap, hv, hc⟩ := row_at (hL.sat hh.sat) hn
  exact h b cap hv hc a w hh
theorem cw_rowany {e : TypeId} {size : Nat} {v : Value} {n : Nat} {xs : List Value} (hL : Fnd L (rowA e size v n xs) M) (h : ∀ p cap, v = .slice p n cap → n ≤ cap → xs.length = n * size → CW c y Q env L) : CW c y Q env L := fun a w hh => by
  obtain ⟨hl, hc⟩ := rowA_cases (hL.sat hh.sat)
  rcases hc with ⟨rfl, rfl, _⟩ | ⟨b, cap, cur, rfl, h1, _⟩
  · exact h none 0 rfl (Nat.le_refl _) hl a w hh
  · exact h _ cap rfl h1 hl a w hh
theorem y_loadRow {x : Operand} {t : TypeId} {b o cap n size : Nat} {e : TypeId} {xs : List Value} {v : Value} (ht : tyScalar c.P t = true) (hx : evo env x = some (.pointer (some ⟨b, o, none⟩)))
    (hL : Fnd L (rowA e size (.slice (some ⟨b, 0, none⟩) n cap) n xs) M) (hv : nth xs o = some v) : Yields c ⟨dd, .load t x, ty, pos, af, g⟩ env L v := by
  intro a w hh
  obtain ⟨hl, hc⟩ := rowA_cases (hL.sat hh.sat)
  rcases hc with ⟨h0, _⟩ | ⟨b', cap', cur, h0, h1, h2, h3, h4, hs⟩
  · cases h0
  · simp only [Value.slice.injEq, Option.some.injEq, Addr.mk.injEq] at h0
    obtain ⟨⟨rfl, _, _⟩, _, rfl⟩ := h0
    have hcur : nth cur o = some v := by
      rw [nth_eq] at hv ⊢
      rw [← h4] at hv
      rw [List.getElem?_take] at hv
      split at hv
      · exact hv
      · cases hv
    have : Fnd (pts b (.cells cur.toArray e (0, 0)) :: M) (pts b (.cells cur.toArray e (0, 0))) M := Fnd.here
    exact y_load (c := c) (L := pts b (.cells cur.toArray e (0, 0)) :: M) (M := M) (d := dd) (g := g) (ty := ty) (pos := pos) (af := af) ht hx hcur a w ⟨hh.size, hh.slots, hh.defers, hs, hh.like⟩
theorem row_shrink {e : TypeId} {size b n k cap : Nat} {xs : List Value} {w : World} (hk : k ≤ n) (h : Sat w (rowA e size (.slice (some ⟨b, 0, none⟩) n cap) n xs :: L)) : Sat w (rowA e size (.slice (some ⟨b, 0, none⟩) k cap) k (xs.take (k * size)) :: L) := by
  obtain ⟨hl, hc⟩ := rowA_cases h
  rcases hc with ⟨h0, _⟩ | ⟨b', cap', cur, h0, h1, h2, h3, h4, hs⟩
  · cases h0
  · simp only [Value.slice.injEq, Option.some.injEq, Addr.mk.injEq] at h0
    obtain ⟨⟨rfl, _, _⟩, _, rfl⟩ := h0
    refine rowA_mk hs (by omega) h2 h3 ?_
    rw [← h4, List.take_take, Nat.min_eq_left (Nat.mul_le_mul_right _ hk)]
end
end Go.Sl
namespace Go.Sl
theorem does_conv {P : Program} {f : FuncId} {args : Array Value} {Pre L M N N' R : List Asrt} {v : Value} (h : Does P f args Pre (Gives v N)) (hL : Split L Pre M) (hN : Split (N ++ M) N' R) : Does P f args L (Gives v N') := by
  intro w F hs
  have h1 : Sat w (Pre ++ [star (F :: M)]) := by
    have a1 : Sat w ((Pre ++ M) ++ [F]) := hs.perm (hL.append_right [F])
    have a2 : Sat w ((F :: M) ++ Pre) := a1.perm (by
      refine (List.perm_append_comm (l₁ := Pre ++ M) (l₂ := [F])).trans ?_
      exact (List.Perm.cons F (List.perm_append_comm (l₁ := Pre) (l₂ := M)) : (F :: (Pre ++ M)).Perm (F :: (M ++ Pre))))
    exact (sat_star.2 a2).perm (List.perm_append_comm (l₁ := [star (F :: M)]))
  refine (h w _ h1).mono ?_
  rintro e w' ⟨L', ⟨rfl, rfl⟩, hs', hl⟩
  have a1 : Sat w' ((F :: M) ++ L') := sat_star.1 (hs'.perm List.perm_append_comm)
  have a2 : Sat w' ((N' ++ R) ++ [F]) := by
    have a3 : Sat w' (F :: (L' ++ M)) := a1.perm (List.Perm.cons F List.perm_append_comm)
    exact (a3.perm (List.Perm.cons F hN)).perm (List.perm_append_comm (l₁ := [F]))
  have a4 : Sat w' (R ++ (N' ++ [F])) := a2.perm (by
    rw [List.append_assoc]
    exact (List.perm_append_comm (l₁ := N') (l₂ := R ++ [F])).trans (by rw [List.append_assoc]; exact List.Perm.append_left R List.perm_append_comm))
  exact ⟨N', ⟨rfl, rfl⟩, a4.drop, hl⟩
end Go.Sl
namespace Go.Sl
theorem does_pre {P : Program} {f : FuncId} {args : Array Value} {Pre Pre' : List Asrt} {Post : Ending → List Asrt → Prop} (hp : ∀ w F, Sat w (Pre' ++ F) → Sat w (Pre ++ F)) (h : Does P f args Pre Post) : Does P f args Pre' Post :=
  fun w F hs => h w F (hp w [F] hs)
theorem does_star {P : Program} {f : FuncId} {args : Array Value} {N M : List Asrt} {Post : Ending → List Asrt → Prop} (h : Does P f args (N ++ M) Post) : Does P f args (star N :: M) Post :=
  does_pre (fun w F hs => by
    have h1 : Sat w (star N :: (M ++ F)) := hs
    have h2 := sat_star.1 h1
    rwa [List.append_assoc]) h
theorem does_giveE {P : Program} {f : FuncId} {args : Array Value} {Pre N : List Asrt} {v : Value} {X : Type} {p : X → Prop} {v' : X → Value} {N' : X → List Asrt} (x : X) (hx : p x) (hv : v = v' x) (hN : N = N' x) (h : Does P f args Pre (Gives v N)) : Does P f args Pre (GivesE p v' N') :=
  fun w F hs => (h w F hs).mono fun e w' ⟨L', ⟨he, hL⟩, hs', hl⟩ => ⟨L', ⟨x, hx, by rw [he, hv], by rw [hL, hN]⟩, hs', hl⟩
theorem Sat.re {w : World} {L M : List Asrt} (h : Sat w L) (hL : Split L M []) : Sat w M := by have := h.perm hL; rwa [List.append_nil] at this
end Go.Sl
namespace Go.Sl
theorem cw_shrink {c : Cx} {Q : Exit → Act → World → Prop} {env : List (Nat × Value)} {L M : List Asrt} {y : Code} {e : TypeId} {size b n k cap : Nat} {xs : List Value} (hL : Fnd L (rowA e size (.slice (some ⟨b, 0, none⟩) n cap) n xs) M) (hk : k ≤ n)
    (h : CW c y Q env (rowA e size (.slice (some ⟨b, 0, none⟩) k cap) k (xs.take (k * size)) :: M)) : CW c y Q env L := fun a w hh => h a w ⟨hh.size, hh.slots, hh.defers, row_shrink hk (hL.sat hh.sat), hh.like⟩
end Go.Sl
end
section
namespace Go.Sl
open Go.Sb
open Go.WideMaps
theorem mapM_all {α β : Type} {f : α → Option β} {g : α → β} : ∀ {l : List α}, (∀ x ∈ l, f x = some (g x)) → l.mapM f = some (l.map g)
  | [], _ => rfl
  | x :: l, h => by
    rw [List.mapM_cons, h x (by simp), mapM_all (l := l) fun y hy => h y (by simp [hy])]
    rfl
theorem lit_byte (b : UInt8) : (Lit.int .u8 (b.toNat : Int)).wf = true := by
  have := b.toNat_lt
  simp only [Lit.wf, IntKind.min, IntKind.max, IntKind.bits, IntKind.signed, Bool.and_eq_true, decide_eq_true_eq]
  simp
  omega
def tyKeyArr (P : Program) (k n e : Nat) : Bool := tyArray P k n e 1 && (tyBy P e && (P.keyType k && (P.cellsOf k == n && (P.cellsOf e == 1 && (!(P.types.size == 0) && (P.keyTypeAt 2 k && P.tiled 2 k))))))
theorem keyOf_arr {P : Program} {k n e : Nat} (ht : tyKeyArr P k n e = true) {x : B} (hx : x.length = n) : ∃ l, keyOf P k (.agg (x.map byteV).toArray) = some l := by
  simp only [tyKeyArr, Bool.and_eq_true, beq_iff_eq, Bool.not_eq_true', beq_eq_false_iff_ne] at ht
  obtain ⟨h1, h2, h3, h4, h5, h6, _⟩ := ht
  obtain ⟨m, hm⟩ : ∃ m, P.types.size = m + 1 := ⟨P.types.size - 1, by omega⟩
  simp only [tyArray, Bool.and_eq_true] at h1
  obtain ⟨h1, _⟩ := h1
  split at h1
  case h_2 => cases h1
  rename_i l e' hu
  simp only [Bool.and_eq_true, beq_iff_eq] at h1
  obtain ⟨rfl, rfl⟩ := h1
  unfold tyBy at h2
  split at h2
  case h_2 => cases h2
  rename_i hue
  have hl : ((List.range l).mapM fun i => P.keyLits (m + 1) e' (((x.map byteV).drop (i * 1)).take 1)) = some ((List.range l).map fun i => [Lit.int .u8 ((x.getD i 0).toNat : Int)]) := by
    refine mapM_all fun i hi => ?_
    have hi' := List.mem_range.1 hi
    have e1 : ((x.map byteV).drop (i * 1)).take 1 = [byteV (x.getD i 0)] := by
      rw [Nat.mul_one, List.take_one, List.head?_drop, List.getElem?_map, List.getElem?_eq_getElem (by omega)]
      simp [List.getD_eq_getElem?_getD, List.getElem?_eq_getElem (show i < x.length by omega)]
    rw [e1]
    simp [Program.keyLits, hue, byteV, lit_byte]
  refine ⟨.string (keyBytes ((List.range l).map fun i => [Lit.int .u8 ((x.getD i 0).toNat : Int)]).flatten), ?_⟩
  unfold keyOf
  rw [hu]
  have hf : (Value.agg (x.map byteV).toArray).formed P k = true := by
    simp [Value.formed, hu, h4, hx]
  simp only [h3, hf, Bool.and_self, if_true]
  rw [hm]
  unfold Program.keyLits
  rw [hu]
  simp only [Value.cells, h4, h5, List.length_map, hx, hl, if_true, Option.map_some]
theorem byteV_inj {x y : B} (h : x.map byteV = y.map byteV) : x = y := by
  induction x generalizing y with
  | nil => cases y with
    | nil => rfl
    | cons b y => simp at h
  | cons a x ih =>
    cases y with
    | nil => simp at h
    | cons b y =>
      simp only [List.map_cons, List.cons.injEq, byteV, Value.int.injEq, true_and] at h
      rw [ih h.2, show a = b from UInt8.toNat_inj.1 (by omega)]
theorem keyR_arr {P : Program} {k n e : Nat} (ht : tyKeyArr P k n e = true) : KeyR P k (fun l : B => .agg (l.map byteV).toArray) (fun l => l.length = n) := by
  have ht' := ht
  simp only [tyKeyArr, Bool.and_eq_true, beq_iff_eq, Bool.not_eq_true', beq_eq_false_iff_ne] at ht
  obtain ⟨h1, h2, h3, h4, h5, h6, h7, h8⟩ := ht
  have hw : (match P.underlying k with | some (.array _ _) | some (.struct _) => true | _ => false) = true := by
    simp only [tyArray, Bool.and_eq_true] at h1
    obtain ⟨h1, _⟩ := h1
    split at h1
    · rename_i h; rw [h]
    · cases h1
  have law := deep_law (P := P) (m := 2) (by omega) h7 h8 hw
  refine ⟨fun w em x hx => ?_, fun w x m hx hm => ?_, fun w x hx => ?_⟩
  · obtain ⟨l, hl⟩ := keyOf_arr ht' hx
    exact law.check w em hl
  · obtain ⟨lx, hlx⟩ := keyOf_arr ht' hx
    have hun : ∃ td, P.underlying k = some td ∧ ∀ es, Instr.findNow td (.agg (x.map byteV).toArray) es 0 = (match es with | [] => some none | _ => none) := by
      simp only [tyArray, Bool.and_eq_true] at h1
      obtain ⟨h1, _⟩ := h1
      split at h1
      · rename_i h; exact ⟨_, h, fun es => by cases es <;> simp [Instr.findNow, Instr.sameNow]⟩
      · cases h1
    obtain ⟨td, hu, hfn⟩ := hun
    have hask : ∀ (m : List (B × MapEntry)), (∀ p ∈ m, p.1.length = n ∧ p.2.key = .agg (p.1.map byteV).toArray) → ∀ i, (Instr.findAsking k (.agg (x.map byteV).toArray) (m.map (·.2)) i).run P w = .ok ((m.findIdx? (fun p => decide (p.1 = x))).bind fun j => (m[j]?).map fun p => (j + i, p.2.val)) w := by
      intro m
      induction m with
      | nil => intro _ i; simp [Instr.findAsking]
      | cons p m ih =>
        intro hm i
        obtain ⟨hp1, hp2⟩ := hm p (by simp)
        obtain ⟨lp, hlp⟩ := keyOf_arr ht' hp1
        obtain ⟨r, hr, hiff⟩ := run_equal_deep (P := P) w (m := 2) (by omega) h7 hw hlx hlp
        have hrx : r = decide (p.1 = x) := by
          by_cases e : p.1 = x
          · simp only [e, decide_true]
            rw [e] at hlp
            exact hiff.2 (Option.some.inj (hlx.symm.trans hlp))
          · simp only [e, decide_false]
            cases hrb : r with
            | false => rfl
            | true =>
              exfalso
              have h9 := hiff.1 hrb
              rw [← h9] at hlp
              have h10 := law.inj hlx hlp
              simp only [Value.agg.injEq] at h10
              exact e (byteV_inj (by simpa using congrArg Array.toList h10)).symm
        simp only [List.map_cons, Instr.findAsking, hp2, Sem.run_bind, hr, Result.andThen_ok, List.findIdx?_cons]
        by_cases e : p.1 = x
        · simp [hrx, e]
        · simp only [hrx, e, decide_false, Bool.false_eq_true, if_false]
          rw [ih (fun q hq => hm q (by simp [hq])) (i + 1)]
          cases m.findIdx? (fun p => decide (p.1 = x)) with
          | none => simp
          | some j =>
            simp only [Option.bind_some, Option.map_some, List.getElem?_cons_succ]
            rw [show j + (i + 1) = j + 1 + i by omega]
    simp only [Instr.findKey, Sem.run_bind, run_underlying hu, Result.andThen_ok, hfn]
    cases m with
    | nil => simp
    | cons p m =>
      simp only [List.map_cons]
      exact hask (p :: m) hm 0
  · obtain ⟨l, hl⟩ := keyOf_arr ht' hx
    exact law.stays w hl
end Go.Sl
end
section
namespace Go.Proofs.YthlclfdnhnnebaaGreatDoor
open Go
end Go.Proofs.YthlclfdnhnnebaaGreatDoor
end
section
namespace Go.Proofs.YthlclfdnhnnebaaGreatDoor
open Go
theorem F.fol : Tryz.prog.follows .mixedOrders = true := by kernel_rfl
theorem F.hb20 : Sl.hasBody Tryz.prog 20 = true := by kernel_rfl
end Go.Proofs.YthlclfdnhnnebaaGreatDoor
end
section
namespace Go.Proofs.YthlclfdnhnnebaaGreatDoor
open Go
theorem F.ag72 : Sl.tyAgg Tryz.prog 72 6 = true := by kernel_rfl
theorem F.hb30 : Sl.hasBody Tryz.prog 30 = true := by kernel_rfl
theorem F.hb35 : Sl.hasBody Tryz.prog 35 = true := by kernel_rfl
theorem F.hb36 : Sl.hasBody Tryz.prog 36 = true := by kernel_rfl
theorem F.hb37 : Sl.hasBody Tryz.prog 37 = true := by kernel_rfl
theorem F.sc26 : Sl.tyScalar Tryz.prog 26 = true := by kernel_rfl
theorem F.sc3 : Sl.tyScalar Tryz.prog 3 = true := by kernel_rfl
theorem F.sz3 : (match Tryz.prog.info? 3 with | some i => i.size == 1 | none => false) = true := by kernel_rfl
theorem F.sz72 : (match Tryz.prog.info? 72 with | some i => i.size == 6 | none => false) = true := by kernel_rfl
theorem F.z72 : (match Tryz.prog.info? 72 with | some i => i.zero | none => none) = some (.agg #[.int .u32 (0), .int .u32 (0), .bool false, .int .i64 (0), .int .i64 (0), .int .u32 (0)]) := by kernel_rfl
end Go.Proofs.YthlclfdnhnnebaaGreatDoor
end
section
namespace Go.Proofs.YthlclfdnhnnebaaGreatDoor
open Go
theorem F.fld69_2 : Sl.tyField Tryz.prog 69 2 2 = true := by kernel_rfl
theorem F.hb25 : Sl.hasBody Tryz.prog 25 = true := by kernel_rfl
theorem F.hb74 : Sl.hasBody Tryz.prog 74 = true := by kernel_rfl
theorem F.hb75 : Sl.hasBody Tryz.prog 75 = true := by kernel_rfl
theorem F.mp67 : Sl.tyMap Tryz.prog 67 26 72 = true := by kernel_rfl
theorem F.sc67 : Sl.tyScalar Tryz.prog 67 = true := by kernel_rfl
theorem F.sc73 : Sl.tyScalar Tryz.prog 73 = true := by kernel_rfl
theorem F.sz26 : (match Tryz.prog.info? 26 with | some i => i.size == 1 | none => false) = true := by kernel_rfl
theorem F.z26 : (match Tryz.prog.info? 26 with | some i => i.zero | none => none) = some (.int .u32 (0)) := by kernel_rfl
end Go.Proofs.YthlclfdnhnnebaaGreatDoor
end
section
namespace Go.Proofs.YthlclfdnhnnebaaGreatDoor
open Go
theorem F.ag279 : Sl.tyAgg Tryz.prog 279 8 = true := by kernel_rfl
theorem F.ar279 : Sl.tyArray Tryz.prog 279 8 26 1 = true := by kernel_rfl
theorem F.fld281_0 : Sl.tyField Tryz.prog 281 0 0 = true := by kernel_rfl
theorem F.fld281_1 : Sl.tyField Tryz.prog 281 1 8 = true := by kernel_rfl
theorem F.fld281_2 : Sl.tyField Tryz.prog 281 2 9 = true := by kernel_rfl
theorem F.hb204 : Sl.hasBody Tryz.prog 204 = true := by kernel_rfl
theorem F.hb205 : Sl.hasBody Tryz.prog 205 = true := by kernel_rfl
theorem F.sc161 : Sl.tyScalar Tryz.prog 161 = true := by kernel_rfl
theorem F.ts161 : (Tryz.prog.underlying 161).isSome = true := by kernel_rfl
theorem F.ts26 : (Tryz.prog.underlying 26).isSome = true := by kernel_rfl
end Go.Proofs.YthlclfdnhnnebaaGreatDoor
end
section
namespace Go.Proofs.YthlclfdnhnnebaaGreatDoor
open Go
theorem F.pl281 : Sl.tyPlaces Tryz.prog 281 = some ([(0, 8), (8, 1), (9, 1)], .agg #[.int .u32 (0), .int .u32 (0), .int .u32 (0), .int .u32 (0), .int .u32 (0), .int .u32 (0), .int .u32 (0), .int .u32 (0), .slice none 0 0, .int .u64 (0)]) := by kernel_rfl
theorem F.z279 : (match Tryz.prog.info? 279 with | some i => i.zero | none => none) = some (.agg #[.int .u32 (0), .int .u32 (0), .int .u32 (0), .int .u32 (0), .int .u32 (0), .int .u32 (0), .int .u32 (0), .int .u32 (0)]) := by kernel_rfl
end Go.Proofs.YthlclfdnhnnebaaGreatDoor
end
section
namespace Go.Proofs.YthlclfdnhnnebaaGreatDoor
open Go
theorem F.ag335 : Sl.tyAgg Tryz.prog 335 64 = true := by kernel_rfl
theorem F.ar335 : Sl.tyArray Tryz.prog 335 64 26 1 = true := by kernel_rfl
theorem F.hb281 : Sl.hasBody Tryz.prog 281 = true := by kernel_rfl
theorem F.hb282 : Sl.hasBody Tryz.prog 282 = true := by kernel_rfl
theorem F.sz279 : (match Tryz.prog.info? 279 with | some i => i.size == 8 | none => false) = true := by kernel_rfl
theorem F.sz335 : (match Tryz.prog.info? 335 with | some i => i.size == 64 | none => false) = true := by kernel_rfl
theorem F.z335 : (match Tryz.prog.info? 335 with | some i => i.zero | none => none) = some (.agg #[.int .u32 (0), .int .u32 (0), .int .u32 (0), .int .u32 (0), .int .u32 (0), .int .u32 (0), .int .u32 (0), .int .u32 (0), .int .u32 (0), .int .u32 (0), .int .u32 (0), .int .u32 (0), .int .u32 (0), .int .u32 (0), .int .u32 (0), .int .u32 (0), .int .u32 (0), .int .u32 (0), .int .u32 (0), .int .u32 (0), .int .u32 (0), .int .u32 (0), .int .u32 (0), .int .u32 (0), .int .u32 (0), .int .u32 (0), .int .u32 (0), .int .u32 (0), .int .u32 (0), .int .u32 (0), .int .u32 (0), .int .u32 (0), .int .u32 (0), .int .u32 (0), .int .u32 (0), .int .u32 (0), .int .u32 (0), .int .u32 (0), .int .u32 (0), .int .u32 (0), .int .u32 (0), .int .u32 (0), .int .u32 (0), .int .u32 (0), .int .u32 (0), .int .u32 (0), .int .u32 (0), .int .u32 (0), .int .u32 (0), .int .u32 (0), .int .u32 (0), .int .u32 (0), .int .u32 (0), .int .u32 (0), .int .u32 (0), .int .u32 (0), .int .u32 (0), .int .u32 (0), .int .u32 (0), .int .u32 (0), .int .u32 (0), .int .u32 (0), .int .u32 (0), .int .u32 (0)]) := by kernel_rfl
end Go.Proofs.YthlclfdnhnnebaaGreatDoor
end
section
namespace Go.Proofs.YthlclfdnhnnebaaGreatDoor
open Go
theorem F.by5 : Sl.tyBy Tryz.prog 5 = true := by kernel_rfl
theorem F.sl74 : Sl.tySlice Tryz.prog 74 5 1 = true := by kernel_rfl
theorem F.z5 : (match Tryz.prog.info? 5 with | some i => i.zero | none => none) = some (.int .u8 (0)) := by kernel_rfl
end Go.Proofs.YthlclfdnhnnebaaGreatDoor
end
