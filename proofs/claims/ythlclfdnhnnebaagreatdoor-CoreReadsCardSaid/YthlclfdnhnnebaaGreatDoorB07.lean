/- Part of the proof; no statement of its own: SlDefer2, SlApp, SlLast, SlShelf, SlArr, SlArrEq, A14F, A13F, A8F, A26F, A25F, A7F, A35F, A22F. -/
import Derived.Test.YthlclfdnhnnebaaGreatDoorB06
import Derived.Below
import Derived.Test.YthlclfdnhnnebaaGreatDoorB05
import Derived.ChangeKeysEq
import Derived.Test.YthlclfdnhnnebaaGreatDoorProg
import Derived.KernelRfl
set_option linter.all false
section
namespace Go.Sl
theorem doesD_plain {P : Program} {f : FuncId} {fn : Func} {y : Code} {args : List Value} {u : FrameMode} {Pre : List Asrt} {Post : Ending → FrameMode → List Asrt → Prop} {n : Nat}
    (hf : P.funcs[f]? = some fn) (hb : fn.body = some y) (hn : fn.ntmps = n) (hle' : Nat.ble args.length n = true)
    (h : ∀ F w0, CW ⟨P, n, [], w0⟩ y (BP P fn (fun e L => Post e u L) F w0) (envOf 0 args) (Pre ++ [F])) : DoesD P f args.toArray u Pre Post := by
  have hle : args.length ≤ n := Nat.le_of_ble_eq_true hle'
  intro w F hsat
  refine callsD_of_wpS hf hb fun c₀ cs hu => ?_
  have hh0 : Holds ⟨P, n, [], w⟩ (envOf 0 args) (Pre ++ [F]) { tmps := args.toArray ++ Array.replicate (fn.ntmps - args.toArray.size) undef, defers := [] } w := by
    refine ⟨by simp [hn]; omega, ?_, rfl, hsat, Like.refl w⟩
    intro t v ht
    obtain ⟨_, h2⟩ := look_envOf args 0 t v ht
    simp only [Nat.sub_zero] at h2
    have hlt : t < args.length := by
      rcases Nat.lt_or_ge t args.length with h' | h'
      · exact h'
      · rw [List.getElem?_eq_none h'] at h2; cases h2
    rw [Array.getElem?_append_left (by simpa using hlt)]
    simpa using h2
  subst hu
  refine wpS_of_wp (wp_mono (h F w _ w hh0) ?_)
  rintro e a' w' q
  have hc : c₀ :: cs = { c₀ with mode := c₀.mode } :: cs := by cases c₀; rfl
  cases e with
  | normal => obtain ⟨q1, v, q2, q3⟩ := q; exact ⟨q1, _, hc, v, q2, q3⟩
  | ret => obtain ⟨q1, v, q2, q3⟩ := q; exact ⟨q1, _, hc, v, q2, q3⟩
  | panic ch => obtain ⟨q1, q2⟩ := q; exact ⟨q1, _, hc, q2⟩
  | outgrown => exact ⟨_, q⟩
  | exit _ => exact q.elim
  | goto _ => exact q.elim
section
variable {P : Program} {n : Nat} {w0 : World} {Q : Exit → Act → World → Prop} {env : List (Nat × Value)} {L : List Asrt} {fn : Func} {Post : Ending → List Asrt → Prop} {F : Asrt} {f : FuncId} {cap args : List Value}
theorem kw_leaveDR {e : Exit} (he : e = .normal ∨ e = .ret) (hq : ∀ a w, BPD P fn Post F w0 e a w → Q e a w) {v : Value} (hres : resv fn env = some v) (hb : hasBody P f = true) {Pre M : List Asrt} {X : Type} {p : X → Prop} {N : X → List Asrt}
    (hs : DoesD P f (args ++ cap).toArray .returning Pre (fun e u' L' => ∃ x, p x ∧ (∃ v, e = .returned v) ∧ settle u' = .returning ∧ L' = N x)) (hL : Split L Pre M) (hF : ∀ x, p x → ∃ L' R, Split (N x ++ M) (F :: L') R ∧ Post (.returned v) L') :
    KW ⟨P, n, [{ target := .fn (.func f) cap.toArray, args := args.toArray }], w0⟩ Q e env L := by
  intro a w hh
  have hsat : Sat w (Pre ++ [star M]) := by
    have h1 := hh.sat.perm hL
    have h2 : Sat w (star M :: Pre) := sat_star.2 (h1.perm List.perm_append_comm)
    exact h2.perm (List.perm_append_comm (l₁ := [star M]) (l₂ := Pre))
  have hrun : (invoke (.fn (.func f) cap.toArray) args.toArray).run P w = .ok (.enter f (args ++ cap).toArray) w := by
    simp only [invoke]
    rw [show (args.toArray ++ cap.toArray) = (args ++ cap).toArray by simp]
    exact run_callFunc hb _ w
  have hlv : Leaves P fn a.tmps (fun e w' => ∃ L', Post e L' ∧ Sat w' (L' ++ [F]) ∧ Like w0 w') a.defers .returning w := by
    rw [hh.defers]
    refine ⟨by simp, _, _, f, (args ++ cap).toArray, rfl, hrun, ?_⟩
    intro c₀ cs hc
    obtain ⟨e', u', w', fr, ⟨L1, ⟨x, hx, ⟨v', hv⟩, hset, rfl⟩, hs', hl⟩, hcm⟩ := hs w (star M) hsat c₀ cs hc
    refine ⟨e', u', w', fr, ?_, hcm⟩
    subst hv
    show Leaves P fn a.tmps _ [] (settle u') w'
    rw [hset]
    obtain ⟨L', R, hF', hp⟩ := hF x hx
    have hsat' : Sat w' (N x ++ M) := by
      have h1 : Sat w' (star M :: N x) := hs'.perm (List.perm_append_comm (l₁ := N x) (l₂ := [star M]))
      exact (sat_star.1 h1).perm List.perm_append_comm
    refine ⟨v, ?_, L', hp, ((hsat'.perm hF'.back).perm List.perm_append_comm).drop, hh.like.trans hl⟩
    have hh' : Holds ⟨P, n, [{ target := .fn (.func f) cap.toArray, args := args.toArray }], w'⟩ env [] a w' := ⟨hh.size, hh.slots, hh.defers, Sat.nil w', Like.refl w'⟩
    exact resv_run hh' hres
  refine hq a w ?_
  rcases he with rfl | rfl <;> exact hlv
end
end Go.Sl
end
section
namespace Go.Sl
open Go.BigFrame
section
variable {c : Cx} {ops : Array Oper} {Q : Exit → Act → World → Prop} {rest : List Oper} {env : List (Nat × Value)} {L M : List Asrt}
  {d : Tmp} {ty : TypeId} {pos : String} {af : Array Edge}
theorem ow_appendFull {s x : Operand} {t tx e size bytes n m : Nat} {base : Option Addr} {y z : Value} {xs news : List Value} (ht : tySlice c.P t e size = true) (hby : tyBytes c.P e bytes = true)
    (hz : (match c.P.info? e with | some i => i.zero | none => none) = some z) (hzs : z.cells.size = size) (hs : evo env s = some (.slice base n n)) (hx : evo env x = some y)
    (hold : ∀ a w, Holds c env L a w → (Builtin.firstCells size n (.slice base n n)).run c.P w.drew = .ok xs.toArray w.drew) (hxs : xs.length = n * size)
    (hsrc : ∀ a w, Holds c env L a w → Src c.P size tx y m news w) (hm : 0 < m) (h63 : n + m ≤ maxLen) (hb : (n + m) * bytes ≤ 140737488355328)
    (h : ∀ (b cap : Nat) (cur : List Value), n + m ≤ cap → cap ≤ maxLen → cur.length = cap * size → cur.take ((n + m) * size) = xs ++ news → OW c ops Q rest ((d, .slice (some ⟨b, 0, none⟩) (n + m) cap) :: env) (pts b (.cells cur.toArray e (0, 0)) :: L)) (hd : Nat.blt d c.n = true := by rfl) :
    OW c ops Q (⟨some d, .call { callee := .builtin .append, args := #[s, x], argTypes := #[t, tx] }, ty, pos, af, none⟩ :: rest) env L := by
  intro a w hh
  simp only [tySlice, Bool.and_eq_true] at ht
  obtain ⟨ht1, ht2⟩ := ht
  split at ht1
  case h_2 => cases ht1
  rename_i e' hu
  simp only [beq_iff_eq] at ht1; subst ht1
  unfold tyBytes at hby
  split at ht2
  case h_2 => cases ht2
  rename_i i hi
  rw [hi] at hby hz
  simp only [beq_iff_eq] at ht2 hby
  subst ht2; subst hby
  have hsr := hsrc a w hh
  refine wpList_plain rfl fun K hK => ?_
  have hnl : news.length = m * i.size := hsr.newsLen
  have hlen' : (xs ++ news).length = (n + m) * i.size := by rw [List.length_append, hxs, hnl, Nat.add_mul]
  have hr := run_append_grow_src (P := c.P) (w := w) t tx ty e' i z hu hi hz base n n xs (hold a w hh) y m news hsr (by omega) (by simp only [maxLen] at h63; omega) (growslice_fits (by omega) hb)
  have hge := grownCap_ge w (n + m) n e'
  have h2 : ((xs ++ news).toArray ++ Builtin.zeroCells z.cells (grownCap w (n + m) n e' - (n + m))) = ((xs ++ news) ++ (Builtin.zeroCells z.cells (grownCap w (n + m) n e' - (n + m))).toList).toArray := by
    apply Array.ext'; simp
  rw [h2] at hr
  unfold Oper.wp
  rw [execOp_builtin, builtin_append]
  have e1 : (#[s, x] : Array Operand).map a.eval = #[.slice base n n, y] := by simp [hh.eval hs, hh.eval hx]
  rw [e1]
  simp only [Sem.run_bind, hr, Result.andThen_ok, Sem.run_pure, Oper.upon]
  refine hK _ _ (h w.heap.size _ _ hge (grownCap_le_maxLen w (n + m) n e' h63) ?_ ?_ _ _ ((⟨hh.size, hh.slots, hh.defers, (hh.sat.drew).alloc _, (hh.like.drew).alloc _⟩ : Holds c env _ a _).put d _ hd))
  · rw [List.length_append, hlen', Array.length_toList, size_zeroCells, hzs, ← Nat.add_mul]
    congr 1; omega
  · rw [← hlen']; exact List.take_left
theorem hold_row {size n : Nat} {e : TypeId} {g : Nat} {cur xs : List Value} [hL : FndB L g (.cells cur.toArray e (0, 0)) M] (hl : n * size ≤ cur.length) (ht : cur.take (n * size) = xs) :
    ∀ a w, Holds c env L a w → (Builtin.firstCells size n (.slice (some ⟨g, 0, none⟩) n n)).run c.P w.drew = .ok xs.toArray w.drew := by
  intro a w hh
  have hM := hL.sat hh.sat
  have h1 := run_loadCells_blk (P := c.P) (w := w.drew) (b := g) (o := 0) (n := n * size) (cs := cur.toArray) (e := e) (fr := (0, 0)) hM.drew.pts (by rw [List.size_toArray, Nat.zero_add]; exact hl)
  have h2 : cur.toArray.extract 0 (0 + n * size) = xs.toArray := by apply Array.ext'; simp [ht]
  simp only [Builtin.firstCells]
  rw [h1, h2]
theorem hold_nil {size : Nat} : ∀ a w, Holds c env L a w → (Builtin.firstCells size 0 (.slice none 0 0)).run c.P w.drew = .ok ([] : List Value).toArray w.drew := by
  intro a w hh
  simp [Builtin.firstCells]
end
end Go.Sl
end
section
namespace Go.Sl
def edge (o : Oper) (i : Nat) : Bool := o.after.any fun e => Region.binds .any e && Nat.beq e.on i
def lastB (ops : List Oper) : Bool :=
  ((List.range ops.length).all fun j => match ops[j]? with | some o => o.after.all (fun e => !Region.binds .any e || Nat.blt e.on j) | none => false) &&
  ((List.range (ops.length - 1)).all fun i => (List.range ops.length).any fun j => Nat.blt i j && (match ops[j]? with | some o => edge o i | none => false))
def DC (ops : List Oper) (l : Array Bool) : Prop := ∀ (j : Nat) (o : Oper), ops[j]? = some o → l.getD j false = true → ∀ e ∈ o.after, Region.binds .any e = true → l.getD e.on false = true
section
variable {P : Program} {Q : Exit → Act → World → Prop} {l : List Oper} {o : Oper}
theorem last_back (h : lastB (l ++ [o]) = true) {j : Nat} {p : Oper} (hj : (l ++ [o])[j]? = some p) : ∀ e ∈ p.after, Region.binds .any e = true → e.on < j := by
  simp only [lastB, Bool.and_eq_true] at h
  have hlt : j < (l ++ [o]).length := by
    rcases Nat.lt_or_ge j (l ++ [o]).length with h' | h'
    · exact h'
    · rw [List.getElem?_eq_none h'] at hj; cases hj
  have h1 := List.all_eq_true.1 h.1 j (List.mem_range.2 hlt)
  rw [hj] at h1
  intro e he hb
  have h2 := Array.all_eq_true'.1 h1 e he
  rw [hb] at h2
  simpa using h2
theorem last_succ (h : lastB (l ++ [o]) = true) {i : Nat} (hi : i < l.length) : ∃ j p, i < j ∧ (l ++ [o])[j]? = some p ∧ ∃ e ∈ p.after, Region.binds .any e = true ∧ e.on = i := by
  simp only [lastB, Bool.and_eq_true] at h
  have h1 := List.all_eq_true.1 h.2 i (List.mem_range.2 (by simpa using hi))
  obtain ⟨j, hj, h2⟩ := List.any_eq_true.1 h1
  simp only [Bool.and_eq_true] at h2
  obtain ⟨h3, h4⟩ := h2
  split at h4
  · rename_i p hp
    unfold edge at h4
    obtain ⟨e, he, h5⟩ := Array.any_eq_true'.1 h4
    simp only [Bool.and_eq_true] at h5
    exact ⟨j, p, by simpa using h3, hp, e, he, h5.1, Nat.eq_of_beq_eq_true h5.2⟩
  · cases h4
theorem last_all (h : lastB (l ++ [o]) = true) {ls : Array Bool} (hd : DC (l ++ [o]) ls) (hr : ∀ e ∈ o.after, Region.binds .any e = true → ls.getD e.on false = true) : ∀ i, i < l.length → ls.getD i false = true := by
  have key : ∀ k i, l.length - i = k → i < l.length → ls.getD i false = true := by
    intro k
    induction k using Nat.strongRecOn with
    | _ k ih =>
      intro i hk hi
      obtain ⟨j, p, hij, hp, e, he, hb, rfl⟩ := last_succ h hi
      have hjl : j < l.length + 1 := by
        rcases Nat.lt_or_ge j (l ++ [o]).length with h' | h'
        · simpa using h'
        · rw [List.getElem?_eq_none h'] at hp; cases hp
      by_cases hje : j = l.length
      · subst hje
        simp at hp; subst hp
        exact hr e he hb
      · exact hd j p hp (ih (l.length - j) (by omega) j rfl (by omega)) e he hb
  intro i hi
  exact key _ i rfl hi
theorem getD_pop {ls : Array Bool} {n i : Nat} {b : Bool} (hs : ls.size = n + 1) (hi : i < n) : ls.pop.getD i b = ls.getD i b := by
  have h1 : i < ls.size := by omega
  simp [Array.getD_eq_getD_getElem?, Array.getElem?_pop, hs, hi, Array.getElem?_eq_getElem h1]
theorem ready_pop (h : lastB (l ++ [o]) = true) {ls : Array Bool} (hs : ls.size = l.length + 1) {i : Nat} (hi : i < l.length) : i ∈ Region.ready .any (l ++ [o]).toArray ls ↔ i ∈ Region.ready .any l.toArray ls.pop := by
  rw [mem_ready, mem_ready, getD_pop hs hi]
  have e1 : (l ++ [o]).toArray[i]? = l.toArray[i]? := by simp [List.getElem?_append_left hi]
  rw [e1]
  refine and_congr Iff.rfl ⟨?_, ?_⟩
  · rintro ⟨p, hp, hall⟩
    refine ⟨p, hp, fun e he hb => ?_⟩
    have := last_back h (j := i) (p := p) (by simpa using e1.trans hp) e he hb
    rw [getD_pop hs (by omega)]
    exact hall e he hb
  · rintro ⟨p, hp, hall⟩
    refine ⟨p, hp, fun e he hb => ?_⟩
    have := last_back h (j := i) (p := p) (by simpa using e1.trans hp) e he hb
    have h2 := hall e he hb
    rwa [getD_pop hs (by omega)] at h2
theorem ready_lt {ops : List Oper} {ls : Array Bool} {i : Nat} (h : i ∈ Region.ready .any ops.toArray ls) : i < ops.length := by
  obtain ⟨_, p, hp, _⟩ := mem_ready.1 h
  rcases Nat.lt_or_ge i ops.length with h' | h'
  · exact h'
  · simp [List.getElem?_eq_none h'] at hp
theorem all_of_none (h : lastB (l ++ [o]) = true) {ls : Array Bool} (hs : ls.size = l.length + 1) (hr : Region.ready .any l.toArray ls.pop = []) : ∀ i, i < l.length → ls.getD i false = true := by
  intro i
  induction i using Nat.strongRecOn with
  | _ i ih =>
    intro hi
    cases hb : ls.getD i false with
    | true => rfl
    | false =>
      exfalso
      have : i ∈ Region.ready .any (l ++ [o]).toArray ls := by
        refine mem_ready.2 ⟨?_, l[i], by simp [List.getElem?_append_left hi], fun e he hbd => ?_⟩
        · simp only [Array.getD_eq_getD_getElem?] at hb ⊢
          rw [Array.getElem?_eq_getElem (by omega)] at hb ⊢
          exact hb
        · have := last_back h (j := i) (p := l[i]) (by simp [List.getElem?_append_left hi]) e he hbd
          exact ih e.on this (by omega)
      rw [ready_pop h hs hi, hr] at this
      cases this
theorem wpOp_push {i : Nat} {K : Act → World → Prop} {X : Act → World → Prop} {a : Act} {w : World} (hi : i < l.length) (hg : ∀ p : Oper, l[i]? = some p → ∀ g : Nat × Bool, p.guard = some g → g.1 < l.length) (h : wpOp P l.toArray (Exit.then X Q) i K a w) : wpOp P (l ++ [o]).toArray Q i K a w := by
  unfold wpOp at h ⊢
  have e1 : (l ++ [o]).toArray[i]? = l.toArray[i]? := by simp [List.getElem?_append_left hi]
  rw [e1]
  have hp : l.toArray[i]? = some l[i] := by simp [hi]
  rw [hp] at h ⊢
  simp only at h ⊢
  have ew : Region.wanted l[i] (yielded (l ++ [o]).toArray a.tmps) = Region.wanted l[i] (yielded l.toArray a.tmps) := by
    unfold Region.wanted
    cases hgd : l[i].guard with
    | none => rfl
    | some g =>
      obtain ⟨j, wnt⟩ := g
      have hj := hg l[i] (by simp [hi]) (j, wnt) hgd
      simp only [yielded]
      have : (l ++ [o]).toArray[j]? = l.toArray[j]? := by simp [List.getElem?_append_left hj]
      rw [this]
  rw [ew]
  split
  · rename_i hw
    rw [if_pos hw] at h
    rcases h with h | ⟨ha, hl⟩
    · left; rwa [wp_then] at h
    · exact .inr ⟨ha, hl⟩
  · rename_i hw
    rw [if_neg hw] at h
    exact h
theorem wpAny_last (h : lastB (l ++ [o]) = true) (hg : ∀ (i : Nat) (p : Oper), l[i]? = some p → ∀ g : Nat × Bool, p.guard = some g → g.1 < l.length) : ∀ (fuel : Nat) (ls : Array Bool) (a : Act) (w : World), ls.size = l.length + 1 → ls.getD l.length true = false → DC (l ++ [o]) ls →
    wpAny P .any l.toArray (Exit.then (fun a w => wpList P (l ++ [o]).toArray Q [o] a w) Q) fuel ls.pop a w → wpAny P .any (l ++ [o]).toArray Q (fuel + 1) ls a w := by
  have fin : ∀ (fuel : Nat) (ls : Array Bool) (a : Act) (w : World), ls.size = l.length + 1 → ls.getD l.length true = false → (∀ i, i < l.length → ls.getD i false = true) → wpList P (l ++ [o]).toArray Q [o] a w → wpAny P .any (l ++ [o]).toArray Q (fuel + 1) ls a w := by
    intro fuel ls a w hs hm hall hx
    have hmr : l.length ∈ Region.ready .any (l ++ [o]).toArray ls := mem_ready.2 ⟨hm, o, by simp, fun e he hb => hall e.on (last_back h (j := l.length) (p := o) (by simp) e he hb)⟩
    have hone : ∀ i ∈ Region.ready .any (l ++ [o]).toArray ls, i = l.length := by
      intro i hi
      have h1 := ready_lt hi
      simp at h1
      rcases Nat.lt_or_ge i l.length with h2 | h2
      · have h3 := (mem_ready.1 hi).1
        have h4 := hall i h2
        simp only [Array.getD_eq_getD_getElem?] at h3 h4
        rw [Array.getElem?_eq_getElem (by omega)] at h3 h4
        simp at h3 h4
        rw [h3] at h4; cases h4
      · omega
    refine ⟨fun h0 => (by rw [h0] at hmr; cases hmr), fun i hi => ?_⟩
    rw [hone i hi]
    have hK : ∀ a' w', Q .normal a' w' → wpAny P .any (l ++ [o]).toArray Q fuel (ls.setIfInBounds l.length true) a' w' := by
      intro a' w' hq
      have hno : Region.ready .any (l ++ [o]).toArray (ls.setIfInBounds l.length true) = [] := by
        refine List.eq_nil_iff_forall_not_mem.2 fun i hi => ?_
        have h1 := ready_lt hi
        simp at h1
        have h3 := (mem_ready.1 hi).1
        simp only [Array.getD_eq_getD_getElem?, Array.getElem?_setIfInBounds] at h3
        split at h3
        · split at h3 <;> simp at h3
        · have h4 := hall i (by omega)
          simp only [Array.getD_eq_getD_getElem?] at h4
          rw [Array.getElem?_eq_getElem (by omega)] at h3 h4
          simp at h3 h4
          rw [h3] at h4; cases h4
      cases fuel with
      | zero => exact ⟨hno, hq⟩
      | succ f => exact ⟨fun _ => hq, by rw [hno]; simp⟩
    unfold wpOp
    have : (l ++ [o]).toArray[l.length]? = some o := by simp
    rw [this]
    simp only
    unfold wpList at hx
    split
    · rename_i hw
      rw [if_pos hw] at hx
      rcases hx with hx | ⟨ha, hl⟩
      · exact .inl (Oper.wp_mono (fun a' w' h' => hK a' w' (by simpa [wpList] using h')) hx)
      · exact .inr ⟨ha, hl⟩
    · rename_i hw
      rw [if_neg hw] at hx
      exact hK _ _ (by simpa [wpList] using hx)
  intro fuel
  induction fuel with
  | zero =>
    intro ls a w hs hm hd hx
    exact fin 0 ls a w hs hm (all_of_none h hs hx.1) hx.2
  | succ fuel ih =>
    intro ls a w hs hm hd hx
    by_cases hr : Region.ready .any l.toArray ls.pop = []
    · exact fin (fuel + 1) ls a w hs hm (all_of_none h hs hr) (hx.1 hr)
    · have hsub : ∀ i ∈ Region.ready .any (l ++ [o]).toArray ls, i < l.length := by
        intro i hi
        have h1 := ready_lt hi
        simp at h1
        rcases Nat.lt_or_ge i l.length with h2 | h2
        · exact h2
        · exfalso
          have hi' : i = l.length := by omega
          subst hi'
          obtain ⟨_, p, hp, hall⟩ := mem_ready.1 hi
          simp at hp; subst hp
          have hal := last_all h hd hall
          apply hr
          refine List.eq_nil_iff_forall_not_mem.2 fun k hk => ?_
          have hk1 := ready_lt hk
          have h3 := (mem_ready.1 hk).1
          rw [getD_pop hs hk1] at h3
          have h4 := hal k hk1
          simp only [Array.getD_eq_getD_getElem?] at h3 h4
          rw [Array.getElem?_eq_getElem (by omega)] at h3 h4
          simp at h3 h4
          rw [h3] at h4; cases h4
      refine ⟨fun h0 => ?_, fun i hi => ?_⟩
      · exfalso
        obtain ⟨k, hk⟩ := List.exists_mem_of_ne_nil _ hr
        have := (ready_pop h hs (ready_lt hk)).2 hk
        rw [h0] at this; cases this
      · have hil := hsub i hi
        have h1 := hx.2 i ((ready_pop h hs hil).1 hi)
        refine wpOp_push hil (hg i) (wpOp_mono (fun a' w' h' => ih (ls.setIfInBounds i true) a' w' (by simpa using hs) ?_ ?_ ?_) h1)
        · simp only [Array.getD_eq_getD_getElem?, Array.getElem?_setIfInBounds] at hm ⊢
          rw [if_neg (by omega)]; exact hm
        · intro j p hp hj e he hb
          simp only [Array.getD_eq_getD_getElem?, Array.getElem?_setIfInBounds] at hj ⊢
          by_cases hie : i = e.on
          · rw [if_pos hie, if_pos (by omega)]; rfl
          · rw [if_neg hie]
            by_cases hji : i = j
            · subst hji
              obtain ⟨_, p', hp', hall⟩ := mem_ready.1 hi
              have hpp : p = p' := by
                have h8 : (l ++ [o])[i]? = some p' := by simpa using hp'
                exact Option.some.inj (hp.symm.trans h8)
              subst hpp
              have := hall e he hb
              simpa [Array.getD_eq_getD_getElem?] using this
            · rw [if_neg hji] at hj
              have := hd j p hp (by simpa [Array.getD_eq_getD_getElem?] using hj) e he hb
              simpa [Array.getD_eq_getD_getElem?] using this
        · have : (ls.setIfInBounds i true).pop = ls.pop.setIfInBounds i true := by
            apply Array.ext
            · simp
            · intro k h1 h2
              have hk : k < ls.size - 1 := by simpa using h1
              rw [Array.getElem_pop, Array.getElem_setIfInBounds (by omega), Array.getElem_setIfInBounds (by simpa using hk), Array.getElem_pop]
          rw [this]
          exact h'
end
def guardsB (l : List Oper) : Bool := l.all fun p => match p.guard with | some g => Nat.blt g.1 l.length | none => true
theorem guardsB_spec {l : List Oper} (h : guardsB l = true) : ∀ (i : Nat) (p : Oper), l[i]? = some p → ∀ g : Nat × Bool, p.guard = some g → g.1 < l.length := by
  intro i p hp g hg
  have := List.all_eq_true.1 h p (List.mem_of_getElem? hp)
  rw [hg] at this
  simpa using this
theorem cw_floatL {c : Cx} {Q : Exit → Act → World → Prop} {env : List (Nat × Value)} {L R : List Asrt} {id : Nat} {l : List Oper} {o : Oper} (plan : PlanF) (K : List Asrt) (hm : c.P.follows .mixedOrders = true)
    (hB : (lastB (l ++ [o]) && (guardsB l && (Region.noSelect l.toArray && (Nat.beq plan.len l.length && schedF l.toArray plan [] (Array.replicate l.length false))))) = true) (hQ : NoSlots Q) (hK : Split L K R)
    (h : OMf c l.toArray (Exit.then (fun a w => wpList c.P (l ++ [o]).toArray Q [o] a w) Q) K [] plan env L) : CW c (.region id (l ++ [o]).toArray true) Q env L := by
  intro a w hh
  simp only [Bool.and_eq_true] at hB
  obtain ⟨hB1, hB2, hB3, hB4, hB5⟩ := hB
  have hh' := hh.drew
  have hs : Sat w.drew K := ((hh'.sat.perm hK).perm List.perm_append_comm).drop
  have h1 := h _ [] [] [] a w.drew hB5 hB3 hQ.then ⟨rfl, (fun p hp => by cases hp), fun p hp => by cases hp⟩ ⟨rfl, rfl⟩ (by simpa using hh') hs
  have e : plan.len = l.length := Nat.eq_of_beq_eq_true hB4
  simp only [cnt, Nat.add_zero, ap] at h1
  rw [e] at h1
  refine wp_region_any hm ?_
  have hsz : (l ++ [o]).toArray.size = l.length + 1 := by simp
  rw [hsz]
  refine wpAny_last hB1 (guardsB_spec hB2) _ _ _ _ (by simp) (by simp) (fun j p _ hj => ?_) ?_
  · rw [Array.getD_eq_getD_getElem?, Array.getElem?_replicate] at hj
    split at hj <;> simp at hj
  · have : (Array.replicate (l.length + 1) false).pop = Array.replicate l.length false := by simp
    rw [this]
    exact wpAny_of_held _ _ _ _ h1
theorem kw_last {c : Cx} {Q : Exit → Act → World → Prop} {env : List (Nat × Value)} {L : List Asrt} {ops : Array Oper} {o : Oper} (h : OW c ops Q [o] env L) : KW c (Exit.then (fun a w => wpList c.P ops Q [o] a w) Q) .normal env L := h
end Go.Sl
namespace Go.Sl
theorem cw_floatN {c : Cx} {Q : Exit → Act → World → Prop} {env : List (Nat × Value)} {L R : List Asrt} {id : Nat} {l : List Oper} (n : Nat) {o : Oper} (ho : l.drop n = [o]) (plan : PlanF) (K : List Asrt) (hm : c.P.follows .mixedOrders = true)
    (hB : (lastB l && (guardsB (l.take n) && (Region.noSelect (l.take n).toArray && (Nat.beq plan.len (l.take n).length && schedF (l.take n).toArray plan [] (Array.replicate (l.take n).length false))))) = true) (hQ : NoSlots Q) (hK : Split L K R)
    (h : OMf c (l.take n).toArray (Exit.then (fun a w => wpList c.P l.toArray Q [o] a w) Q) K [] plan env L) : CW c (.region id l.toArray true) Q env L := by
  have e : l.take n ++ [o] = l := by rw [← ho]; exact List.take_append_drop _ _
  have := cw_floatL (id := id) (l := l.take n) (o := o) plan K hm (by rw [e]; exact hB) hQ hK (by rw [e]; exact h)
  rwa [e] at this
end Go.Sl
end
section
namespace Go.Sl
open Go.RowKit
theorem sat_below {w w' : World} {L : List Asrt} (h : Sat w L) (hb : Below w.heap.size w w') : Sat w' L := by
  obtain ⟨l, h1, h2, h3⟩ := h
  exact ⟨l, h1, h2, fun b o hm => by rw [hb.block b (heap_lt (h3 b o hm))]; exact h3 b o hm⟩
theorem does_below {P : Program} {f : FuncId} {args : Array Value} {v : Value} (h : ∀ w, Calls P f args w fun e w' => e = .returned v ∧ Below w.heap.size w w') : Does P f args [] (Gives v []) := by
  intro w F hs
  refine (h w).mono ?_
  rintro e w' ⟨rfl, hb⟩
  exact ⟨[], ⟨rfl, rfl⟩, sat_below hs hb, hb.os, hb.tape, hb.output⟩
theorem does_drew {P : Program} {f : FuncId} {args : Array Value} {v : Value} (h : ∀ w, Calls P f args w fun e w' => e = .returned v ∧ (w' = w ∨ w' = w.drew)) : Does P f args [] (Gives v []) :=
  does_below fun w => (h w).mono fun e w' ⟨h1, h2⟩ => ⟨h1, by
    rcases h2 with rfl | rfl
    · exact Below.refl _ _
    · exact (Below.refl _ _).drew⟩
end Go.Sl
namespace Go.Sl
theorem ow_storeRow {c : Cx} {ops : Array Oper} {Q : Exit → Act → World → Prop} {rest : List Oper} {env : List (Nat × Value)} {L M : List Asrt} {ty : TypeId} {pos : String} {af : Array Edge}
    {t : TypeId} {x y : Operand} {b o n cap size : Nat} {e : TypeId} {xs xs' : List Value} {v : Value}
    (ht : (match c.P.info? t with | some i => i.size == 1 | none => false) = true) (hx : evo env x = some (.pointer (some ⟨b, o, none⟩))) (hy : evo env y = some v) (h1 : v.oneCell' = true)
    (hL : Fnd L (rowA e size (.slice (some ⟨b, 0, none⟩) n cap) n xs) M) (ho : o < xs.length) (hc : xs.set o v = xs')
    (h : OW c ops Q rest env (rowA e size (.slice (some ⟨b, 0, none⟩) n cap) n xs' :: M)) : OW c ops Q (⟨none, .store t x y, ty, pos, af, none⟩ :: rest) env L := by
  intro a w hh
  obtain ⟨hl, hcase⟩ := rowA_cases (hL.sat hh.sat)
  rcases hcase with ⟨h0, _⟩ | ⟨b', cap', cur, h0, g1, g2, g3, g4, hs⟩
  · cases h0
  · simp only [Value.slice.injEq, Option.some.injEq, Addr.mk.injEq] at h0
    obtain ⟨⟨rfl, _, _⟩, _, rfl⟩ := h0
    have hlt : o < cur.length := by
      have : xs.length ≤ cur.length := by rw [← g4]; simp; omega
      omega
    refine ow_store (c := c) (L := pts b (.cells cur.toArray e (0, 0)) :: M) (M := M) (cs' := cur.set o v) ht hx hy h1 (by rw [Nat.blt_eq]; exact hlt) rfl (fun a w hh => ?_) a w ⟨hh.size, hh.slots, hh.defers, hs, hh.like⟩
    refine h a w ⟨hh.size, hh.slots, hh.defers, rowA_mk hh.sat g1 g2 (by simpa using g3) ?_, hh.like⟩
    rw [List.take_set, g4, hc]
end Go.Sl
end
section
namespace Go.Sl
open Go.BigFrame
section
variable {c : Cx} {ops : Array Oper} {Q : Exit → Act → World → Prop} {rest : List Oper} {env : List (Nat × Value)} {L M : List Asrt}
  {d : Tmp} {ty : TypeId} {pos : String} {af : Array Edge} {g : Option (Nat × Bool)} {dd : Option Tmp}
theorem y_sliceArr {t len e n : TypeId} {x : Operand} {b o : Nat} (ht : tyArray c.P t len e n = true) (hx : evo env x = some (.pointer (some ⟨b, o, none⟩))) :
    Yields c ⟨dd, .slice t x none none none, ty, pos, af, g⟩ env L (.slice (some ⟨b, o, none⟩) len len) := by
  intro a w h
  simp only [tyArray, Bool.and_eq_true] at ht
  obtain ⟨h1, h2⟩ := ht
  split at h1
  · rename_i l z hu
    simp at h1; obtain ⟨rfl, rfl⟩ := h1
    split at h2
    · rename_i info hinfo
      simp at h2; subst h2
      simp [execOp, h.eval hx, Instr.sliceAt, run_underlying hu, Instr.sureAddr, Instr.sliceBounds, Instr.sliceBound, sizeOf, typeInfo, hinfo, Addr.add]
    · cases h2
  · cases h1
theorem ow_copyStr {t tx e : TypeId} {x y : Operand} {b o n cap : Nat} {s : ByteArray} {cs cs' : List Value} {eb : TypeId} (ht : tySlice c.P t e 1 = true) (hx : evo env x = some (.slice (some ⟨b, o, none⟩) n cap)) (hy : evo env y = some (.string s))
    [hL : FndB L b (.cells cs.toArray eb (0, 0)) M] (ho : o + min s.size n ≤ cs.length) (hc : cs.take o ++ (s.data.toList.take n).map byteV ++ cs.drop (o + min s.size n) = cs')
    (h : OW c ops Q rest ((d, .int .i64 (min s.size n : Nat)) :: env) (pts b (.cells cs'.toArray eb (0, 0)) :: M)) (hd : Nat.blt d c.n = true := by rfl) :
    OW c ops Q (⟨some d, .call { callee := .builtin .copy, args := #[x, y], argTypes := #[t, tx] }, ty, pos, af, none⟩ :: rest) env L := by
  intro a w hh
  simp only [tySlice, Bool.and_eq_true] at ht
  obtain ⟨ht1, ht2⟩ := ht
  split at ht1
  case h_2 => cases ht1
  rename_i e' hu
  simp only [beq_iff_eq] at ht1; subst ht1
  split at ht2
  case h_2 => cases ht2
  rename_i i hi
  simp only [beq_iff_eq] at ht2
  have hsat := hL.sat hh.sat
  have hb := hsat.pts
  have hlen : ((s.data.toList.take n).map byteV).length = min s.size n := by simp [Nat.min_comm]
  have hst := run_storeCells_blk (P := c.P) ((s.data.toList.take n).map byteV) o 0 cs.toArray w hb (by rw [hlen]; simpa using ho) (by
    intro v hv
    obtain ⟨u, _, rfl⟩ := List.mem_map.1 hv
    rfl)
  have hcs : (cs.toArray.extract 0 (o + 0) ++ ((s.data.toList.take n).map byteV).toArray ++ cs.toArray.extract (o + 0 + ((s.data.toList.take n).map byteV).length) cs.toArray.size) = cs'.toArray := by
    rw [hlen, ← hc]
    apply Array.ext'
    simp [List.take_of_length_le]
  rw [hcs] at hst
  refine wpList_plain rfl fun K hK => ?_
  unfold Oper.wp
  rw [execOp_builtin, builtin_copy]
  have e1 : (#[x, y] : Array Operand).map a.eval = #[.slice (some ⟨b, o, none⟩) n cap, .string s] := by simp [hh.eval hx, hh.eval hy]
  rw [e1]
  have hrun : (Builtin.copy_ #[t, tx] ty #[.slice (some ⟨b, o, none⟩) n cap, .string s]).run c.P w = .ok (.int .i64 (min s.size n : Nat)) (put w b (.cells cs'.toArray eb (0, 0))) := by
    simp only [Builtin.copy_, Sem.run_bind, Sem.run_pure, run_underlying hu, Result.andThen_ok, Builtin.lenOf, Builtin.firstCells, sizeOf, typeInfo, hi]
    simp [run_underlying hu, Builtin.lenOf, Builtin.firstCells, sizeOf, typeInfo, hi, ht2]
    have e2 : List.take (s.size.min n) (List.map (fun b : UInt8 => Value.int IntKind.u8 b.toNat) s.data.toList) = (s.data.toList.take n).map byteV := by
      rw [← List.map_take]
      have : s.data.toList.take (s.size.min n) = s.data.toList.take n := by
        rw [show s.size.min n = min s.size n from rfl, List.take_eq_take_iff]; simp; omega
      rw [this]; rfl
    rw [e2, hst]; rfl
  simp only [Sem.run_bind, hrun, Result.andThen_ok, Sem.run_pure, Oper.upon]
  exact hK _ _ (h _ _ ((⟨hh.size, hh.slots, hh.defers, hsat.put, hh.like.put _ _⟩ : Holds c env _ a _).put d _ hd))
theorem y_buildArr {t len e n : TypeId} {parts : List (Nat × Operand)} {z : Value} {ps : List (Nat × Value)} {cs : List Value} (ht : tyArray c.P t len e n = true) (hz : (match c.P.info? t with | some i => i.zero | none => none) = some z)
    (hv : evParts env parts = some ps) (hf : fillL (fun i => some (i * n, n)) z.cells.toList (ps.map fun (i, v) => (i, v.cells.toList)) = some cs) : Yields c ⟨some d, .build t parts.toArray, ty, pos, af, g⟩ env L (.agg cs.toArray) := by
  intro a w hh
  have h1 : (parts.toArray.map fun (i, x) => (i, a.eval x)).toList = ps := by simpa using evParts_run hh parts ps hv
  have hb : c.P.built t (parts.toArray.map fun (i, x) => (i, a.eval x)).toList = some cs.toArray := by
    rw [h1]
    simp only [tyArray, Bool.and_eq_true] at ht
    obtain ⟨h1, h2⟩ := ht
    unfold Program.built
    split at h1
    · rename_i l y hu
      simp at h1; obtain ⟨rfl, rfl⟩ := h1
      split at h2
      · rename_i info hinfo
        simp at h2; subst h2
        split at hz
        · rename_i it hit
          simp only [hit, hu, hz, hinfo]
          exact fill_fillL ps z.cells cs hf
        · cases hz
      · cases h2
    · cases h1
  unfold execOp
  simp only [Sem.run_bind, run_build w t _ _ hb, Result.andThen_ok, Sem.run_pure]
end
open Go.Sb in
theorem cw_retRC {P : Program} {n : Nat} {w0 : World} {Q : Exit → Act → World → Prop} {env : List (Nat × Value)} {L : List Asrt} {fn : Func} {F : Asrt} {S α : Type} {ft : TypeId} {R : S → List Asrt} {val : α → Value} {o : Out α × S} {a : α} {s : S} {R' : List Asrt}
    (ho : o = (.ok a, s)) (hq : ∀ x w, BP P fn (Ran ft R val o) F w0 .ret x w → Q .ret x w) {us : List Value} (hv : RV ⟨P, n, [], w0⟩ env L fn.results.toList us) (hu : oneOf us = val a) (hL : Split L (F :: R s) R') : CW ⟨P, n, [], w0⟩ .ret Q env L := by
  subst ho; exact cw_ret (kw_retC hq hv hL ⟨by rw [hu], rfl⟩)
end Go.Sl
end
section
namespace Go.Sl
def tyEqArr (P : Program) (t n : Nat) (k : IntKind) : Bool := !P.eqGuardType P.depth t && (match P.underlying t with
  | some (.array m e) => m == n && (P.cellsOf e == 1 && ((P.info? e).isSome && (tyScalar P e && (match P.underlying e with | some (.int j) => j == k | _ => false))))
  | _ => false)
def tyEqArr2 (P : Program) (t n m : Nat) (k : IntKind) : Bool := !P.eqGuardType P.depth t && (match P.underlying t with
  | some (.array j e) => j == n && (P.cellsOf e == m && ((P.info? e).isSome && (tyAgg P e m && tyEqArr P e m k)))
  | _ => false)
theorem run_items {α : Type} [DecidableEq α] {P : Program} {w : World} {d e c : Nat} {elem : α → Value} {xs ys : Array Value} {X Y : List α} (hl : X.length = Y.length)
    (hx : ∀ i (h : i < X.length), (part e xs (i * c)).run P w = .ok (elem X[i]) w) (hy : ∀ i (h : i < Y.length), (part e ys (i * c)).run P w = .ok (elem Y[i]) w)
    (heq : ∀ a ∈ X, ∀ b ∈ Y, (Op.equalIn d e (elem a) (elem b)).run P w = .ok (decide (a = b)) w) :
    ∀ (m j : Nat), j + m = X.length → (Op.eqItems d e c xs ys (List.range' j m)).run P w = .ok (decide (X.drop j = Y.drop j)) w
  | 0, j, hj => by
    rw [List.drop_eq_nil_of_le (by omega), List.drop_eq_nil_of_le (by omega)]
    simp [Op.eqItems]
  | m + 1, j, hj => by
    have h1 : j < X.length := by omega
    have h2 : j < Y.length := by omega
    have ih := run_items hl hx hy heq m (j + 1) (by omega)
    rw [List.range'_succ]
    simp only [Op.eqItems, Sem.run_bind, hx j h1, hy j h2, Result.andThen_ok, heq _ (List.getElem_mem h1) _ (List.getElem_mem h2)]
    rw [List.drop_eq_getElem_cons h1, List.drop_eq_getElem_cons h2]
    by_cases e : X[j] = Y[j]
    · simp only [e, decide_true, Bool.not_true, Bool.false_eq_true, if_false, ih, List.cons.injEq, true_and]
    · have hne : ¬ (X[j] :: X.drop (j + 1) = Y[j] :: Y.drop (j + 1)) := fun h => e (List.cons.inj h).1
      rw [decide_eq_false hne]
      simp only [e, decide_false, Bool.not_false, if_true, Sem.run_pure]
theorem run_eqArr {P : Program} {w : World} {t n : Nat} {k : IntKind} (ht : tyEqArr P t n k = true) (d : Nat) {X Y : List Int} (hx : X.length = n) (hy : Y.length = n) :
    (Op.equalIn (d + 2) t (.agg (X.map (Value.int k)).toArray) (.agg (Y.map (Value.int k)).toArray)).run P w = .ok (decide (X = Y)) w := by
  unfold tyEqArr at ht
  simp only [Bool.and_eq_true] at ht
  obtain ⟨_, ht⟩ := ht
  split at ht
  case h_2 => cases ht
  rename_i m e hu
  simp only [Bool.and_eq_true, beq_iff_eq] at ht
  obtain ⟨rfl, hc, hi, hs, hk⟩ := ht
  obtain ⟨i, hi⟩ := Option.isSome_iff_exists.1 hi
  split at hk
  case h_2 => cases hk
  rename_i j hj
  simp only [beq_iff_eq] at hk
  rw [run_equalIn_array w (d + 1) _ _ hu hi, hc, List.range_eq_range', ← hx]
  have hp : ∀ (Z : List Int) i (h : i < Z.length), (part e (Z.map (Value.int k)).toArray (i * 1)).run P w = .ok (Value.int k Z[i]) w := fun Z i h =>
    run_part hs (by rw [Nat.mul_one, List.getElem?_map, List.getElem?_eq_getElem h]; rfl) w
  exact run_items (X := X) (Y := Y) (by omega) (hp X) (hp Y) (fun a _ b _ => run_equalIn_int w d e k j a b hj) X.length 0 (by omega)
theorem run_eqArr2 {P : Program} {w : World} {t n m : Nat} {k : IntKind} (ht : tyEqArr2 P t n m k = true) (d : Nat) {X Y : List (List Int)} (hx : X.length = n) (hy : Y.length = n) (hx' : ∀ x ∈ X, x.length = m) (hy' : ∀ x ∈ Y, x.length = m) :
    (Op.equalIn (d + 3) t (.agg (X.flatMap (·.map (Value.int k))).toArray) (.agg (Y.flatMap (·.map (Value.int k))).toArray)).run P w = .ok (decide (X = Y)) w := by
  unfold tyEqArr2 at ht
  simp only [Bool.and_eq_true] at ht
  obtain ⟨_, ht⟩ := ht
  split at ht
  case h_2 => cases ht
  rename_i j e hu
  simp only [Bool.and_eq_true, beq_iff_eq] at ht
  obtain ⟨rfl, hc, hi, hs, hk⟩ := ht
  obtain ⟨i, hi⟩ := Option.isSome_iff_exists.1 hi
  rw [run_equalIn_array w (d + 2) _ _ hu hi, hc, List.range_eq_range', ← hx]
  have hp : ∀ (Z : List (List Int)), (∀ x ∈ Z, x.length = m) → ∀ i (h : i < Z.length), (part e (Z.flatMap (·.map (Value.int k))).toArray (i * m)).run P w = .ok (.agg (Z[i].map (Value.int k)).toArray) w := by
    intro Z hZ i h
    have hex : (Z.flatMap (·.map (Value.int k))).toArray.extract (i * m) (i * m + m) = (Z[i].map (Value.int k)).toArray := by
      apply Array.ext'
      simp only [Array.toList_extract, List.extract_eq_take_drop]
      clear hx hy hx' hy'
      induction Z generalizing i with
      | nil => simp at h
      | cons z Z ih =>
        have hz := hZ z (List.mem_cons_self ..)
        cases i with
        | zero => simp [← hz, List.take_left']
        | succ i =>
          have := ih (fun x hx => hZ x (List.mem_cons_of_mem _ hx)) i (by simpa using h)
          simp only [List.flatMap_cons, List.getElem_cons_succ]
          rw [show (i + 1) * m = m + i * m by rw [Nat.succ_mul, Nat.add_comm], show m + i * m + m - (m + i * m) = i * m + m - i * m by omega, ← List.drop_drop, List.drop_left' (by simp [hz])]
          exact this
    have hsz : i * m + m ≤ (Z.flatMap (·.map (Value.int k))).toArray.size := by
      have : (Z.flatMap (·.map (Value.int k))).length = Z.length * m := by
        clear hex h
        induction Z with
        | nil => simp
        | cons z Z ih => simp [List.flatMap_cons, hZ z (List.mem_cons_self ..), ih (fun x hx => hZ x (List.mem_cons_of_mem _ hx)), Nat.succ_mul, Nat.add_comm]
      rw [List.size_toArray, this, ← Nat.succ_mul]
      exact Nat.mul_le_mul_right _ h
    simp only [part, Sem.run_bind, run_isAgg_agg hs, Result.andThen_ok, if_true, run_sizeOf_agg hs]
    simp [hex, hsz]
  exact run_items (X := X) (Y := Y) (by omega) (hp X hx') (hp Y hy') (fun a ha b hb => run_eqArr hk d (hx' a ha) (hy' b hb)) X.length 0 (by omega)
section
variable {c : Cx} {env : List (Nat × Value)} {L : List Asrt} {d : Option Tmp} {ty : TypeId} {pos : String} {af : Array Edge} {g : Option (Nat × Bool)}
theorem y_arr_eql {x y : Operand} {t yt : TypeId} {n : Nat} {k : IntKind} {X Y : List Int} (ht : tyEqArr c.P t n k = true) (hx : evo env x = some (.agg (X.map (Value.int k)).toArray)) (hy : evo env y = some (.agg (Y.map (Value.int k)).toArray)) (h1 : X.length = n) (h2 : Y.length = n) :
    Yields c ⟨d, .binOp .eql t x y yt, ty, pos, af, g⟩ env L (.bool (decide (X = Y))) := by
  intro a w h
  have hg : c.P.eqGuardType c.P.depth t = false := by
    unfold tyEqArr at ht; simp only [Bool.and_eq_true, Bool.not_eq_true'] at ht; exact ht.1
  have e2 : (binOp .eql t (.agg (X.map (Value.int k)).toArray) (.agg (Y.map (Value.int k)).toArray)).run c.P w = .ok (.bool (decide (X = Y))) w := by
    rw [run_eql_struct]
    rw [show (10000 : Nat) = 9998 + 2 from rfl, run_eqArr ht 9998 h1 h2]; rfl
  simp only [execOp, h.eval hx, h.eval hy, Sem.run_bind, run_eqGuard_agg w .eql t x y _ _ hg, Result.andThen_ok, e2, Sem.run_pure]
theorem y_arr_eql2 {x y : Operand} {t yt : TypeId} {n m : Nat} {k : IntKind} {X Y : List (List Int)} (ht : tyEqArr2 c.P t n m k = true) (hx : evo env x = some (.agg (X.flatMap (·.map (Value.int k))).toArray)) (hy : evo env y = some (.agg (Y.flatMap (·.map (Value.int k))).toArray))
    (h1 : X.length = n) (h2 : Y.length = n) (h3 : ∀ x ∈ X, x.length = m) (h4 : ∀ x ∈ Y, x.length = m) :
    Yields c ⟨d, .binOp .eql t x y yt, ty, pos, af, g⟩ env L (.bool (decide (X = Y))) := by
  intro a w h
  have hg : c.P.eqGuardType c.P.depth t = false := by
    unfold tyEqArr2 at ht; simp only [Bool.and_eq_true, Bool.not_eq_true'] at ht; exact ht.1
  have e2 : (binOp .eql t (.agg (X.flatMap (·.map (Value.int k))).toArray) (.agg (Y.flatMap (·.map (Value.int k))).toArray)).run c.P w = .ok (.bool (decide (X = Y))) w := by
    rw [run_eql_struct]
    rw [show (10000 : Nat) = 9997 + 3 from rfl, run_eqArr2 ht 9997 h1 h2 h3 h4]; rfl
  simp only [execOp, h.eval hx, h.eval hy, Sem.run_bind, run_eqGuard_agg w .eql t x y _ _ hg, Result.andThen_ok, e2, Sem.run_pure]
end
end Go.Sl
end
section
namespace Go.Proofs.YthlclfdnhnnebaaGreatDoor
open Go
theorem F.eb273 : Sl.tyEqArr2 Tryz.prog 273 8 32 .u8 = true := by kernel_rfl
theorem F.hb99 : Sl.hasBody Tryz.prog 99 = true := by kernel_rfl
theorem F.in5 : Sl.tyInt Tryz.prog 5 .u8 = true := by kernel_rfl
theorem F.tb9 : Sl.tyBytes Tryz.prog 9 16 = true := by kernel_rfl
theorem F.ts3 : (Tryz.prog.underlying 3).isSome = true := by kernel_rfl
end Go.Proofs.YthlclfdnhnnebaaGreatDoor
end
section
namespace Go.Proofs.YthlclfdnhnnebaaGreatDoor
open Go
theorem F.sc5 : Sl.tyScalar Tryz.prog 5 = true := by kernel_rfl
theorem F.sz5 : (match Tryz.prog.info? 5 with | some i => i.size == 1 | none => false) = true := by kernel_rfl
end Go.Proofs.YthlclfdnhnnebaaGreatDoor
end
section
namespace Go.Proofs.YthlclfdnhnnebaaGreatDoor
open Go
theorem F.in26 : Sl.tyInt Tryz.prog 26 .u32 = true := by kernel_rfl
theorem F.in92 : Sl.tyInt Tryz.prog 92 .u64 = true := by kernel_rfl
theorem F.ts5 : (Tryz.prog.underlying 5).isSome = true := by kernel_rfl
end Go.Proofs.YthlclfdnhnnebaaGreatDoor
end
section
namespace Go.Proofs.YthlclfdnhnnebaaGreatDoor
open Go
theorem F.ar218 : Sl.tyArray Tryz.prog 218 8 3 1 = true := by kernel_rfl
theorem F.fa220_1 : Sl.tyFieldAt Tryz.prog 220 1 1 8 true = true := by kernel_rfl
theorem F.hb138 : Sl.hasBody Tryz.prog 138 = true := by kernel_rfl
theorem F.hb139 : Sl.hasBody Tryz.prog 139 = true := by kernel_rfl
theorem F.hb170 : Sl.hasBody Tryz.prog 170 = true := by kernel_rfl
theorem F.hb171 : Sl.hasBody Tryz.prog 171 = true := by kernel_rfl
end Go.Proofs.YthlclfdnhnnebaaGreatDoor
end
section
namespace Go.Proofs.YthlclfdnhnnebaaGreatDoor
open Go
theorem F.ag218 : Sl.tyAgg Tryz.prog 218 8 = true := by kernel_rfl
theorem F.ag220 : Sl.tyAgg Tryz.prog 220 41 = true := by kernel_rfl
theorem F.fld155_0 : Sl.tyField Tryz.prog 155 0 0 = true := by kernel_rfl
theorem F.fld220_1 : Sl.tyField Tryz.prog 220 1 1 = true := by kernel_rfl
theorem F.fld220_2 : Sl.tyField Tryz.prog 220 2 9 = true := by kernel_rfl
theorem F.hb159 : Sl.hasBody Tryz.prog 159 = true := by kernel_rfl
theorem F.hb176 : Sl.hasBody Tryz.prog 176 = true := by kernel_rfl
theorem F.hb199 : Sl.hasBody Tryz.prog 199 = true := by kernel_rfl
theorem F.hb200 : Sl.hasBody Tryz.prog 200 = true := by kernel_rfl
theorem F.hb201 : Sl.hasBody Tryz.prog 201 = true := by kernel_rfl
theorem F.hb202 : Sl.hasBody Tryz.prog 202 = true := by kernel_rfl
theorem F.sz175 : (match Tryz.prog.info? 175 with | some i => i.size == 32 | none => false) = true := by kernel_rfl
theorem F.sz220 : (match Tryz.prog.info? 220 with | some i => i.size == 41 | none => false) = true := by kernel_rfl
theorem F.z220 : (match Tryz.prog.info? 220 with | some i => i.zero | none => none) = some (.agg #[.int .i64 (0), .int .i64 (0), .int .i64 (0), .int .i64 (0), .int .i64 (0), .int .i64 (0), .int .i64 (0), .int .i64 (0), .int .i64 (0), .int .u8 (0), .int .u8 (0), .int .u8 (0), .int .u8 (0), .int .u8 (0), .int .u8 (0), .int .u8 (0), .int .u8 (0), .int .u8 (0), .int .u8 (0), .int .u8 (0), .int .u8 (0), .int .u8 (0), .int .u8 (0), .int .u8 (0), .int .u8 (0), .int .u8 (0), .int .u8 (0), .int .u8 (0), .int .u8 (0), .int .u8 (0), .int .u8 (0), .int .u8 (0), .int .u8 (0), .int .u8 (0), .int .u8 (0), .int .u8 (0), .int .u8 (0), .int .u8 (0), .int .u8 (0), .int .u8 (0), .int .u8 (0)]) := by kernel_rfl
end Go.Proofs.YthlclfdnhnnebaaGreatDoor
end
section
namespace Go.Proofs.YthlclfdnhnnebaaGreatDoor
open Go
theorem F.ea218 : Sl.tyEqArr Tryz.prog 218 8 .i64 = true := by kernel_rfl
theorem F.hb183 : Sl.hasBody Tryz.prog 183 = true := by kernel_rfl
theorem F.z218 : (match Tryz.prog.info? 218 with | some i => i.zero | none => none) = some (.agg #[.int .i64 (0), .int .i64 (0), .int .i64 (0), .int .i64 (0), .int .i64 (0), .int .i64 (0), .int .i64 (0), .int .i64 (0)]) := by kernel_rfl
end Go.Proofs.YthlclfdnhnnebaaGreatDoor
end
section
namespace Go.Proofs.YthlclfdnhnnebaaGreatDoor
open Go
theorem F.hb26 : Sl.hasBody Tryz.prog 26 = true := by kernel_rfl
theorem F.hb27 : Sl.hasBody Tryz.prog 27 = true := by kernel_rfl
theorem F.hb28 : Sl.hasBody Tryz.prog 28 = true := by kernel_rfl
theorem F.hb29 : Sl.hasBody Tryz.prog 29 = true := by kernel_rfl
theorem F.hb31 : Sl.hasBody Tryz.prog 31 = true := by kernel_rfl
theorem F.hb32 : Sl.hasBody Tryz.prog 32 = true := by kernel_rfl
theorem F.sc9 : Sl.tyScalar Tryz.prog 9 = true := by kernel_rfl
end Go.Proofs.YthlclfdnhnnebaaGreatDoor
end
section
namespace Go.Proofs.YthlclfdnhnnebaaGreatDoor
open Go
theorem F.hb136 : Sl.hasBody Tryz.prog 136 = true := by kernel_rfl
theorem F.hb175 : Sl.hasBody Tryz.prog 175 = true := by kernel_rfl
theorem F.hb184 : Sl.hasBody Tryz.prog 184 = true := by kernel_rfl
theorem F.hb197 : Sl.hasBody Tryz.prog 197 = true := by kernel_rfl
theorem F.pl220 : Sl.tyPlaces Tryz.prog 220 = some ([(0, 1), (1, 8), (9, 32)], .agg #[.int .i64 (0), .int .i64 (0), .int .i64 (0), .int .i64 (0), .int .i64 (0), .int .i64 (0), .int .i64 (0), .int .i64 (0), .int .i64 (0), .int .u8 (0), .int .u8 (0), .int .u8 (0), .int .u8 (0), .int .u8 (0), .int .u8 (0), .int .u8 (0), .int .u8 (0), .int .u8 (0), .int .u8 (0), .int .u8 (0), .int .u8 (0), .int .u8 (0), .int .u8 (0), .int .u8 (0), .int .u8 (0), .int .u8 (0), .int .u8 (0), .int .u8 (0), .int .u8 (0), .int .u8 (0), .int .u8 (0), .int .u8 (0), .int .u8 (0), .int .u8 (0), .int .u8 (0), .int .u8 (0), .int .u8 (0), .int .u8 (0), .int .u8 (0), .int .u8 (0), .int .u8 (0)]) := by kernel_rfl
end Go.Proofs.YthlclfdnhnnebaaGreatDoor
end
