/- A region whose last operation waits for all the others: the others, then the last one. -/
import Derived.Test.YtoolmpfkbaffcaaDoorSlApp
set_option linter.all false
namespace Go.Sl
def edge (o : Oper) (i : Nat) : Bool := o.after.any fun e => Region.binds .any e && Nat.beq e.on i
/-- edges lead backwards; each operation but the last has one that waits for it -/
def lastB (ops : List Oper) : Bool :=
  ((List.range ops.length).all fun j => match ops[j]? with | some o => o.after.all (fun e => !Region.binds .any e || Nat.blt e.on j) | none => false) &&
  ((List.range (ops.length - 1)).all fun i => (List.range ops.length).any fun j => Nat.blt i j && (match ops[j]? with | some o => edge o i | none => false))
def DC (ops : List Oper) (l : Array Bool) : Prop := ∀ (j : Nat) (o : Oper), ops[j]? = some o → l.getD j false = true → ∀ e ∈ o.after, Region.binds .any e = true → l.getD e.on false = true
section
variable {P : Program} {Q : Exit → Act → World → Prop} {l : List Oper} {o : Oper}
theorem last_back (h : lastB (l ++ [o]) = true) {j : Nat} {p : Oper} (hj : (l ++ [o])[j]? = some p) : ∀ e ∈ p.after, Region.binds .any e = true → e.on < j := by
  simp only [lastB, Bool.and_eq_true] at h
  have hlt : j < (l ++ [o]).length := by
    rcases Nat.lt_or_ge j (l ++ [o]).length with h' | h'
    · exact h'
    · rw [List.getElem?_eq_none h'] at hj; cases hj
  have h1 := List.all_eq_true.1 h.1 j (List.mem_range.2 hlt)
  rw [hj] at h1
  intro e he hb
  have h2 := Array.all_eq_true'.1 h1 e he
  rw [hb] at h2
  simpa using h2
theorem last_succ (h : lastB (l ++ [o]) = true) {i : Nat} (hi : i < l.length) : ∃ j p, i < j ∧ (l ++ [o])[j]? = some p ∧ ∃ e ∈ p.after, Region.binds .any e = true ∧ e.on = i := by
  simp only [lastB, Bool.and_eq_true] at h
  have h1 := List.all_eq_true.1 h.2 i (List.mem_range.2 (by simpa using hi))
  obtain ⟨j, hj, h2⟩ := List.any_eq_true.1 h1
  simp only [Bool.and_eq_true] at h2
  obtain ⟨h3, h4⟩ := h2
  split at h4
  · rename_i p hp
    unfold edge at h4
    obtain ⟨e, he, h5⟩ := Array.any_eq_true'.1 h4
    simp only [Bool.and_eq_true] at h5
    exact ⟨j, p, by simpa using h3, hp, e, he, h5.1, Nat.eq_of_beq_eq_true h5.2⟩
  · cases h4
theorem last_all (h : lastB (l ++ [o]) = true) {ls : Array Bool} (hd : DC (l ++ [o]) ls) (hr : ∀ e ∈ o.after, Region.binds .any e = true → ls.getD e.on false = true) : ∀ i, i < l.length → ls.getD i false = true := by
  have key : ∀ k i, l.length - i = k → i < l.length → ls.getD i false = true := by
    intro k
    induction k using Nat.strongRecOn with
    | _ k ih =>
      intro i hk hi
      obtain ⟨j, p, hij, hp, e, he, hb, rfl⟩ := last_succ h hi
      have hjl : j < l.length + 1 := by
        rcases Nat.lt_or_ge j (l ++ [o]).length with h' | h'
        · simpa using h'
        · rw [List.getElem?_eq_none h'] at hp; cases hp
      by_cases hje : j = l.length
      · subst hje
        simp at hp; subst hp
        exact hr e he hb
      · exact hd j p hp (ih (l.length - j) (by omega) j rfl (by omega)) e he hb
  intro i hi
  exact key _ i rfl hi
theorem getD_pop {ls : Array Bool} {n i : Nat} {b : Bool} (hs : ls.size = n + 1) (hi : i < n) : ls.pop.getD i b = ls.getD i b := by
  have h1 : i < ls.size := by omega
  simp [Array.getD_eq_getD_getElem?, Array.getElem?_pop, hs, hi, Array.getElem?_eq_getElem h1]
theorem ready_pop (h : lastB (l ++ [o]) = true) {ls : Array Bool} (hs : ls.size = l.length + 1) {i : Nat} (hi : i < l.length) : i ∈ Region.ready .any (l ++ [o]).toArray ls ↔ i ∈ Region.ready .any l.toArray ls.pop := by
  rw [mem_ready, mem_ready, getD_pop hs hi]
  have e1 : (l ++ [o]).toArray[i]? = l.toArray[i]? := by simp [List.getElem?_append_left hi]
  rw [e1]
  refine and_congr Iff.rfl ⟨?_, ?_⟩
  · rintro ⟨p, hp, hall⟩
    refine ⟨p, hp, fun e he hb => ?_⟩
    have := last_back h (j := i) (p := p) (by simpa using e1.trans hp) e he hb
    rw [getD_pop hs (by omega)]
    exact hall e he hb
  · rintro ⟨p, hp, hall⟩
    refine ⟨p, hp, fun e he hb => ?_⟩
    have := last_back h (j := i) (p := p) (by simpa using e1.trans hp) e he hb
    have h2 := hall e he hb
    rwa [getD_pop hs (by omega)] at h2
theorem ready_lt {ops : List Oper} {ls : Array Bool} {i : Nat} (h : i ∈ Region.ready .any ops.toArray ls) : i < ops.length := by
  obtain ⟨_, p, hp, _⟩ := mem_ready.1 h
  rcases Nat.lt_or_ge i ops.length with h' | h'
  · exact h'
  · simp [List.getElem?_eq_none h'] at hp
theorem all_of_none (h : lastB (l ++ [o]) = true) {ls : Array Bool} (hs : ls.size = l.length + 1) (hr : Region.ready .any l.toArray ls.pop = []) : ∀ i, i < l.length → ls.getD i false = true := by
  intro i
  induction i using Nat.strongRecOn with
  | _ i ih =>
    intro hi
    cases hb : ls.getD i false with
    | true => rfl
    | false =>
      exfalso
      have : i ∈ Region.ready .any (l ++ [o]).toArray ls := by
        refine mem_ready.2 ⟨?_, l[i], by simp [List.getElem?_append_left hi], fun e he hbd => ?_⟩
        · simp only [Array.getD_eq_getD_getElem?] at hb ⊢
          rw [Array.getElem?_eq_getElem (by omega)] at hb ⊢
          exact hb
        · have := last_back h (j := i) (p := l[i]) (by simp [List.getElem?_append_left hi]) e he hbd
          exact ih e.on this (by omega)
      rw [ready_pop h hs hi, hr] at this
      cases this
theorem wpOp_push {i : Nat} {K : Act → World → Prop} {X : Act → World → Prop} {a : Act} {w : World} (hi : i < l.length) (hg : ∀ p : Oper, l[i]? = some p → ∀ g : Nat × Bool, p.guard = some g → g.1 < l.length) (h : wpOp P l.toArray (Exit.then X Q) i K a w) : wpOp P (l ++ [o]).toArray Q i K a w := by
  unfold wpOp at h ⊢
  have e1 : (l ++ [o]).toArray[i]? = l.toArray[i]? := by simp [List.getElem?_append_left hi]
  rw [e1]
  have hp : l.toArray[i]? = some l[i] := by simp [hi]
  rw [hp] at h ⊢
  simp only at h ⊢
  have ew : Region.wanted l[i] (yielded (l ++ [o]).toArray a.tmps) = Region.wanted l[i] (yielded l.toArray a.tmps) := by
    unfold Region.wanted
    cases hgd : l[i].guard with
    | none => rfl
    | some g =>
      obtain ⟨j, wnt⟩ := g
      have hj := hg l[i] (by simp [hi]) (j, wnt) hgd
      simp only [yielded]
      have : (l ++ [o]).toArray[j]? = l.toArray[j]? := by simp [List.getElem?_append_left hj]
      rw [this]
  rw [ew]
  split
  · rename_i hw
    rw [if_pos hw] at h
    rcases h with h | ⟨ha, hl⟩
    · left; rwa [wp_then] at h
    · exact .inr ⟨ha, hl⟩
  · rename_i hw
    rw [if_neg hw] at h
    exact h
theorem wpAny_last (h : lastB (l ++ [o]) = true) (hg : ∀ (i : Nat) (p : Oper), l[i]? = some p → ∀ g : Nat × Bool, p.guard = some g → g.1 < l.length) : ∀ (fuel : Nat) (ls : Array Bool) (a : Act) (w : World), ls.size = l.length + 1 → ls.getD l.length true = false → DC (l ++ [o]) ls →
    wpAny P .any l.toArray (Exit.then (fun a w => wpList P (l ++ [o]).toArray Q [o] a w) Q) fuel ls.pop a w → wpAny P .any (l ++ [o]).toArray Q (fuel + 1) ls a w := by
  have fin : ∀ (fuel : Nat) (ls : Array Bool) (a : Act) (w : World), ls.size = l.length + 1 → ls.getD l.length true = false → (∀ i, i < l.length → ls.getD i false = true) → wpList P (l ++ [o]).toArray Q [o] a w → wpAny P .any (l ++ [o]).toArray Q (fuel + 1) ls a w := by
    intro fuel ls a w hs hm hall hx
    have hmr : l.length ∈ Region.ready .any (l ++ [o]).toArray ls := mem_ready.2 ⟨hm, o, by simp, fun e he hb => hall e.on (last_back h (j := l.length) (p := o) (by simp) e he hb)⟩
    have hone : ∀ i ∈ Region.ready .any (l ++ [o]).toArray ls, i = l.length := by
      intro i hi
      have h1 := ready_lt hi
      simp at h1
      rcases Nat.lt_or_ge i l.length with h2 | h2
      · have h3 := (mem_ready.1 hi).1
        have h4 := hall i h2
        simp only [Array.getD_eq_getD_getElem?] at h3 h4
        rw [Array.getElem?_eq_getElem (by omega)] at h3 h4
        simp at h3 h4
        rw [h3] at h4; cases h4
      · omega
    refine ⟨fun h0 => (by rw [h0] at hmr; cases hmr), fun i hi => ?_⟩
    rw [hone i hi]
    have hK : ∀ a' w', Q .normal a' w' → wpAny P .any (l ++ [o]).toArray Q fuel (ls.setIfInBounds l.length true) a' w' := by
      intro a' w' hq
      have hno : Region.ready .any (l ++ [o]).toArray (ls.setIfInBounds l.length true) = [] := by
        refine List.eq_nil_iff_forall_not_mem.2 fun i hi => ?_
        have h1 := ready_lt hi
        simp at h1
        have h3 := (mem_ready.1 hi).1
        simp only [Array.getD_eq_getD_getElem?, Array.getElem?_setIfInBounds] at h3
        split at h3
        · split at h3 <;> simp at h3
        · have h4 := hall i (by omega)
          simp only [Array.getD_eq_getD_getElem?] at h4
          rw [Array.getElem?_eq_getElem (by omega)] at h3 h4
          simp at h3 h4
          rw [h3] at h4; cases h4
      cases fuel with
      | zero => exact ⟨hno, hq⟩
      | succ f => exact ⟨fun _ => hq, by rw [hno]; simp⟩
    unfold wpOp
    have : (l ++ [o]).toArray[l.length]? = some o := by simp
    rw [this]
    simp only
    unfold wpList at hx
    split
    · rename_i hw
      rw [if_pos hw] at hx
      rcases hx with hx | ⟨ha, hl⟩
      · exact .inl (Oper.wp_mono (fun a' w' h' => hK a' w' (by simpa [wpList] using h')) hx)
      · exact .inr ⟨ha, hl⟩
    · rename_i hw
      rw [if_neg hw] at hx
      exact hK _ _ (by simpa [wpList] using hx)
  intro fuel
  induction fuel with
  | zero =>
    intro ls a w hs hm hd hx
    exact fin 0 ls a w hs hm (all_of_none h hs hx.1) hx.2
  | succ fuel ih =>
    intro ls a w hs hm hd hx
    by_cases hr : Region.ready .any l.toArray ls.pop = []
    · exact fin (fuel + 1) ls a w hs hm (all_of_none h hs hr) (hx.1 hr)
    · have hsub : ∀ i ∈ Region.ready .any (l ++ [o]).toArray ls, i < l.length := by
        intro i hi
        have h1 := ready_lt hi
        simp at h1
        rcases Nat.lt_or_ge i l.length with h2 | h2
        · exact h2
        · exfalso
          have hi' : i = l.length := by omega
          subst hi'
          obtain ⟨_, p, hp, hall⟩ := mem_ready.1 hi
          simp at hp; subst hp
          have hal := last_all h hd hall
          apply hr
          refine List.eq_nil_iff_forall_not_mem.2 fun k hk => ?_
          have hk1 := ready_lt hk
          have h3 := (mem_ready.1 hk).1
          rw [getD_pop hs hk1] at h3
          have h4 := hal k hk1
          simp only [Array.getD_eq_getD_getElem?] at h3 h4
          rw [Array.getElem?_eq_getElem (by omega)] at h3 h4
          simp at h3 h4
          rw [h3] at h4; cases h4
      refine ⟨fun h0 => ?_, fun i hi => ?_⟩
      · exfalso
        obtain ⟨k, hk⟩ := List.exists_mem_of_ne_nil _ hr
        have := (ready_pop h hs (ready_lt hk)).2 hk
        rw [h0] at this; cases this
      · have hil := hsub i hi
        have h1 := hx.2 i ((ready_pop h hs hil).1 hi)
        refine wpOp_push hil (hg i) (wpOp_mono (fun a' w' h' => ih (ls.setIfInBounds i true) a' w' (by simpa using hs) ?_ ?_ ?_) h1)
        · simp only [Array.getD_eq_getD_getElem?, Array.getElem?_setIfInBounds] at hm ⊢
          rw [if_neg (by omega)]; exact hm
        · intro j p hp hj e he hb
          simp only [Array.getD_eq_getD_getElem?, Array.getElem?_setIfInBounds] at hj ⊢
          by_cases hie : i = e.on
          · rw [if_pos hie, if_pos (by omega)]; rfl
          · rw [if_neg hie]
            by_cases hji : i = j
            · subst hji
              obtain ⟨_, p', hp', hall⟩ := mem_ready.1 hi
              have hpp : p = p' := by
                have h8 : (l ++ [o])[i]? = some p' := by simpa using hp'
                exact Option.some.inj (hp.symm.trans h8)
              subst hpp
              have := hall e he hb
              simpa [Array.getD_eq_getD_getElem?] using this
            · rw [if_neg hji] at hj
              have := hd j p hp (by simpa [Array.getD_eq_getD_getElem?] using hj) e he hb
              simpa [Array.getD_eq_getD_getElem?] using this
        · have : (ls.setIfInBounds i true).pop = ls.pop.setIfInBounds i true := by
            apply Array.ext
            · simp
            · intro k h1 h2
              have hk : k < ls.size - 1 := by simpa using h1
              rw [Array.getElem_pop, Array.getElem_setIfInBounds (by omega), Array.getElem_setIfInBounds (by simpa using hk), Array.getElem_pop]
          rw [this]
          exact h'
end
def guardsB (l : List Oper) : Bool := l.all fun p => match p.guard with | some g => Nat.blt g.1 l.length | none => true
theorem guardsB_spec {l : List Oper} (h : guardsB l = true) : ∀ (i : Nat) (p : Oper), l[i]? = some p → ∀ g : Nat × Bool, p.guard = some g → g.1 < l.length := by
  intro i p hp g hg
  have := List.all_eq_true.1 h p (List.mem_of_getElem? hp)
  rw [hg] at this
  simpa using this
/-- with allocations that float -/
theorem cw_floatL {c : Cx} {Q : Exit → Act → World → Prop} {env : List (Nat × Value)} {L R : List Asrt} {id : Nat} {l : List Oper} {o : Oper} (plan : PlanF) (K : List Asrt) (hm : c.P.follows .mixedOrders = true)
    (hB : (lastB (l ++ [o]) && (guardsB l && (Region.noSelect l.toArray && (Nat.beq plan.len l.length && schedF l.toArray plan [] (Array.replicate l.length false))))) = true) (hQ : NoSlots Q) (hK : Split L K R)
    (h : OMf c l.toArray (Exit.then (fun a w => wpList c.P (l ++ [o]).toArray Q [o] a w) Q) K [] plan env L) : CW c (.region id (l ++ [o]).toArray true) Q env L := by
  intro a w hh
  simp only [Bool.and_eq_true] at hB
  obtain ⟨hB1, hB2, hB3, hB4, hB5⟩ := hB
  have hh' := hh.drew
  have hs : Sat w.drew K := ((hh'.sat.perm hK).perm List.perm_append_comm).drop
  have h1 := h _ [] [] [] a w.drew hB5 hB3 hQ.then ⟨rfl, (fun p hp => by cases hp), fun p hp => by cases hp⟩ ⟨rfl, rfl⟩ (by simpa using hh') hs
  have e : plan.len = l.length := Nat.eq_of_beq_eq_true hB4
  simp only [cnt, Nat.add_zero, ap] at h1
  rw [e] at h1
  refine wp_region_any hm ?_
  have hsz : (l ++ [o]).toArray.size = l.length + 1 := by simp
  rw [hsz]
  refine wpAny_last hB1 (guardsB_spec hB2) _ _ _ _ (by simp) (by simp) (fun j p _ hj => ?_) ?_
  · rw [Array.getD_eq_getD_getElem?, Array.getElem?_replicate] at hj
    split at hj <;> simp at hj
  · have : (Array.replicate (l.length + 1) false).pop = Array.replicate l.length false := by simp
    rw [this]
    exact wpAny_of_held _ _ _ _ h1
theorem kw_last {c : Cx} {Q : Exit → Act → World → Prop} {env : List (Nat × Value)} {L : List Asrt} {ops : Array Oper} {o : Oper} (h : OW c ops Q [o] env L) : KW c (Exit.then (fun a w => wpList c.P ops Q [o] a w) Q) .normal env L := h
end Go.Sl
namespace Go.Sl
theorem cw_floatN {c : Cx} {Q : Exit → Act → World → Prop} {env : List (Nat × Value)} {L R : List Asrt} {id : Nat} {l : List Oper} (n : Nat) {o : Oper} (ho : l.drop n = [o]) (plan : PlanF) (K : List Asrt) (hm : c.P.follows .mixedOrders = true)
    (hB : (lastB l && (guardsB (l.take n) && (Region.noSelect (l.take n).toArray && (Nat.beq plan.len (l.take n).length && schedF (l.take n).toArray plan [] (Array.replicate (l.take n).length false))))) = true) (hQ : NoSlots Q) (hK : Split L K R)
    (h : OMf c (l.take n).toArray (Exit.then (fun a w => wpList c.P l.toArray Q [o] a w) Q) K [] plan env L) : CW c (.region id l.toArray true) Q env L := by
  have e : l.take n ++ [o] = l := by rw [← ho]; exact List.take_append_drop _ _
  have := cw_floatL (id := id) (l := l.take n) (o := o) plan K hm (by rw [e]; exact hB) hQ hK (by rw [e]; exact h)
  rwa [e] at this
end Go.Sl
