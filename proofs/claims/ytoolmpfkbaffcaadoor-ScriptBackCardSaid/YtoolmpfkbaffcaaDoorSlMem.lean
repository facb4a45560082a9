/- Memory that a call makes for itself: rows that grow, structs, maps. -/
import Derived.Test.YtoolmpfkbaffcaaDoorSlFloat
import Derived.Deep.AppendSrc
set_option linter.all false
namespace Go.Sl
open Go.BigFrame

/-- a slice that is the caller's own (or nil): n elements of so many cells each -/
def rowA (e : TypeId) (size : Nat) (v : Value) (n : Nat) (xs : List Value) : Asrt := fun l =>
  xs.length = n * size ∧ ((v = .slice none 0 0 ∧ n = 0 ∧ l = []) ∨
    ∃ (g cap : Nat) (cur : List Value), v = .slice (some ⟨g, 0, none⟩) n cap ∧ n ≤ cap ∧ cap ≤ maxLen ∧ cur.length = cap * size ∧ cur.take (n * size) = xs ∧ l = [(g, .cells cur.toArray e (0, 0))])

theorem rowA_nil (e : TypeId) (size : Nat) {w : World} {L : List Asrt} (h : Sat w L) : Sat w (rowA e size (.slice none 0 0) 0 [] :: L) := by
  obtain ⟨l, h1, h2, h3⟩ := h
  exact ⟨l, ⟨[], l, rfl, ⟨by simp, .inl ⟨rfl, rfl, rfl⟩⟩, h1⟩, h2, h3⟩

/-- what is known of such a slice -/
theorem rowA_cases {e : TypeId} {size : Nat} {v : Value} {n : Nat} {xs : List Value} {w : World} {L : List Asrt} (h : Sat w (rowA e size v n xs :: L)) :
    xs.length = n * size ∧ ((v = .slice none 0 0 ∧ n = 0 ∧ Sat w L) ∨
      ∃ (g cap : Nat) (cur : List Value), v = .slice (some ⟨g, 0, none⟩) n cap ∧ n ≤ cap ∧ cap ≤ maxLen ∧ cur.length = cap * size ∧ cur.take (n * size) = xs ∧ Sat w (pts g (.cells cur.toArray e (0, 0)) :: L)) := by
  obtain ⟨l, ⟨l1, l2, rfl, ⟨hl, h1⟩, h2⟩, hn, hh⟩ := h
  refine ⟨hl, ?_⟩
  rcases h1 with ⟨rfl, rfl, rfl⟩ | ⟨g, cap, cur, rfl, a1, a2, a3, a4, rfl⟩
  · exact .inl ⟨rfl, rfl, l2, h2, hn, hh⟩
  · exact .inr ⟨g, cap, cur, rfl, a1, a2, a3, a4, _, ⟨_, l2, rfl, rfl, h2⟩, hn, hh⟩
theorem rowA_mk {e : TypeId} {size : Nat} {n g cap : Nat} {cur xs : List Value} {w : World} {L : List Asrt} (h : Sat w (pts g (.cells cur.toArray e (0, 0)) :: L)) (h1 : n ≤ cap) (h2 : cap ≤ maxLen) (h3 : cur.length = cap * size)
    (h4 : cur.take (n * size) = xs) : Sat w (rowA e size (.slice (some ⟨g, 0, none⟩) n cap) n xs :: L) := by
  refine h.mono_head fun l hl => ⟨?_, .inr ⟨g, cap, cur, rfl, h1, h2, h3, h4, hl⟩⟩
  rw [← h4, List.length_take, h3]
  exact Nat.min_eq_left (Nat.mul_le_mul_right _ h1)

theorem row_one {e : TypeId} {size : Nat} {v : Value} {n : Nat} {xs : List Value} {w : World} {L : List Asrt} (h : Sat w (rowA e size v n xs :: L)) : v.oneCell' = true := by
  obtain ⟨_, hc⟩ := rowA_cases h
  rcases hc with ⟨rfl, _⟩ | ⟨g, cap, cur, rfl, _⟩ <;> rfl
def tyBytes (P : Program) (e n : Nat) : Bool := match P.info? e with | some i => i.bytes == n | none => false

section
variable {c : Cx} {ops : Array Oper} {Q : Exit → Act → World → Prop} {rest : List Oper} {env : List (Nat × Value)} {L M : List Asrt}
  {d : Tmp} {ty : TypeId} {pos : String} {af : Array Edge}

/-- append, to a slice of the call's own -/
theorem ow_append {s x : Operand} {t tx e size bytes n m : Nat} {v y z : Value} {xs news : List Value} (ht : tySlice c.P t e size = true) (hby : tyBytes c.P e bytes = true)
    (hz : (match c.P.info? e with | some i => i.zero | none => none) = some z) (hzs : z.cells.size = size) (hs : evo env s = some v) (hx : evo env x = some y)
    (hL : Fnd L (rowA e size v n xs) M) (hsrc : ∀ a w, Holds c env L a w → Src c.P size tx y m news w) (h63 : n + m ≤ maxLen) (hb : (n + m) * bytes ≤ 140737488355328)
    (h : ∀ v', v'.oneCell' = true → OW c ops Q rest ((d, v') :: env) (rowA e size v' (n + m) (xs ++ news) :: M)) (hd : Nat.blt d c.n = true := by rfl) :
    OW c ops Q (⟨some d, .call { callee := .builtin .append, args := #[s, x], argTypes := #[t, tx] }, ty, pos, af, none⟩ :: rest) env L := by
  intro a w hh
  simp only [tySlice, Bool.and_eq_true] at ht
  obtain ⟨ht1, ht2⟩ := ht
  split at ht1
  case h_2 => cases ht1
  rename_i e' hu
  simp only [beq_iff_eq] at ht1; subst ht1
  unfold tyBytes at hby
  split at ht2
  case h_2 => cases ht2
  rename_i i hi
  rw [hi] at hby hz
  simp only [beq_iff_eq] at ht2 hby
  subst ht2; subst hby
  have hsr := hsrc a w hh
  have hsrD := hsrc a w.drew hh.drew
  have hsat := hL.sat hh.sat
  obtain ⟨hlen, hcase⟩ := rowA_cases hsat
  refine wpList_plain rfl fun K hK => ?_
  have hgoal : ∃ v' w', (Builtin.append_ #[t, tx] ty #[v, y]).run c.P w = .ok v' w' ∧ Sat w' (rowA e' i.size v' (n + m) (xs ++ news) :: M) ∧ Like w w' := by
    have hnl : news.length = m * i.size := hsr.newsLen
    have hlen' : (xs ++ news).length = (n + m) * i.size := by rw [List.length_append, hlen, hnl, Nat.add_mul]
    have grown : ∀ (old : Nat), old < n + m → Sat w M →
        Sat (w.drew.alloc (.cells ((xs ++ news).toArray ++ Builtin.zeroCells z.cells (grownCap w (n + m) old e' - (n + m))) e')) (rowA e' i.size (.slice (some ⟨w.heap.size, 0, none⟩) (n + m) (grownCap w (n + m) old e')) (n + m) (xs ++ news) :: M) := by
      intro old ho hM
      have hge := grownCap_ge w (n + m) old e'
      have h1 := (hM.drew).alloc (.cells ((xs ++ news).toArray ++ Builtin.zeroCells z.cells (grownCap w (n + m) old e' - (n + m))) e')
      have h2 : ((xs ++ news).toArray ++ Builtin.zeroCells z.cells (grownCap w (n + m) old e' - (n + m))) = ((xs ++ news) ++ (Builtin.zeroCells z.cells (grownCap w (n + m) old e' - (n + m))).toList).toArray := by
        apply Array.ext'; simp
      rw [h2] at h1 ⊢
      refine rowA_mk h1 hge (grownCap_le_maxLen w (n + m) old e' h63) ?_ ?_
      · rw [List.length_append, hlen', Array.length_toList, size_zeroCells, hzs, ← Nat.add_mul]
        congr 1; omega
      · rw [← hlen']; exact List.take_left
    rcases hcase with ⟨rfl, rfl, hM⟩ | ⟨g, cap, cur, rfl, hnc, hcm, hcl, htake, hM⟩
    · have hxs : xs = [] := List.eq_nil_of_length_eq_zero (by simpa using hlen)
      subst hxs
      by_cases hm : m = 0
      · subst hm
        have hn0 : news = [] := List.eq_nil_of_length_eq_zero (by simpa using hnl)
        subst hn0
        refine ⟨.slice none 0 0, w, ?_, rowA_nil _ _ hM, Like.refl w⟩
        rcases hsr.kind with ⟨e2, hk⟩ | hk <;>
          simp [Builtin.append_, run_underlying hu, run_underlying hk, sizeOf, typeInfo, hi, hsr.len, hsr.cells]
      · have hr := run_append_grow_src (P := c.P) (w := w) t tx ty e' i z hu hi hz none 0 0 [] (by simp [Builtin.firstCells]) y m news hsr (by omega) (by simp only [maxLen] at h63; omega) (growslice_fits (by omega) hb)
        simp only [Nat.zero_add, List.nil_append] at hr grown ⊢
        exact ⟨_, _, hr, grown 0 (by omega) hM, (Like.refl w).drew.alloc _⟩
    · by_cases hroom : n + m ≤ cap
      · have hfit : n * i.size + 0 + news.length ≤ cur.toArray.size := by
          rw [List.size_toArray, hnl, hcl, Nat.add_zero, ← Nat.add_mul]; exact Nat.mul_le_mul_right _ hroom
        have hst := run_storeCells_blk (P := c.P) news (n * i.size) 0 cur.toArray w hM.pts hfit hsr.one
        simp only [Nat.add_zero] at hst
        refine ⟨.slice (some ⟨g, 0, none⟩) (n + m) cap, _, ?_, ?_, (Like.refl w).put g (.cells (cur.toArray.extract 0 (n * i.size) ++ news.toArray ++ cur.toArray.extract (n * i.size + news.length) cur.toArray.size) e' (0, 0))⟩
        · rcases hsr.kind with ⟨e2, hk⟩ | hk <;>
            simp [Builtin.append_, run_underlying hu, run_underlying hk, sizeOf, typeInfo, hi, hsr.len, hsr.cells, hroom, addr_add, hst]
        · have hcl' : n * i.size + news.length ≤ cur.length := by simpa using hfit
          have h2 : (cur.toArray.extract 0 (n * i.size) ++ news.toArray ++ cur.toArray.extract (n * i.size + news.length) cur.toArray.size) = (cur.take (n * i.size) ++ news ++ cur.drop (n * i.size + news.length)).toArray := by
            apply Array.ext'
            simp
            rw [List.take_of_length_le (by simp)]
          rw [h2]
          refine rowA_mk hM.put hroom hcm ?_ ?_
          · simp only [List.length_append, List.length_take, List.length_drop]; omega
          · rw [htake, ← hlen']; exact List.take_left
      · have hold : (Builtin.firstCells i.size n (.slice (some ⟨g, 0, none⟩) n cap)).run c.P w.drew = .ok xs.toArray w.drew := by
          have h1 := run_loadCells_blk (P := c.P) (w := w.drew) (b := g) (o := 0) (n := n * i.size) (cs := cur.toArray) (e := e') (fr := (0, 0)) hM.drew.pts (by
            rw [List.size_toArray, hcl, Nat.zero_add]; exact Nat.mul_le_mul_right _ hnc)
          have h2 : cur.toArray.extract 0 (0 + n * i.size) = xs.toArray := by apply Array.ext'; simp [htake]
          simp only [Builtin.firstCells]
          rw [h1, h2]
        have hr := run_append_grow_src (P := c.P) (w := w) t tx ty e' i z hu hi hz (some ⟨g, 0, none⟩) n cap xs hold y m news hsr (by omega) (by simp only [maxLen] at h63; omega) (growslice_fits (by omega) hb)
        exact ⟨_, _, hr, grown cap (by omega) hM.tail, (Like.refl w).drew.alloc _⟩
  obtain ⟨v', w', hr, hs', hl⟩ := hgoal
  unfold Oper.wp
  rw [execOp_builtin, builtin_append]
  have e1 : (#[s, x] : Array Operand).map a.eval = #[v, y] := by simp [hh.eval hs, hh.eval hx]
  rw [e1]
  simp only [Sem.run_bind, hr, Result.andThen_ok, Sem.run_pure, Oper.upon]
  exact hK _ _ (h v' (row_one hs') _ _ ((⟨hh.size, hh.slots, hh.defers, hs', hh.like.trans hl⟩ : Holds c env _ a w').put d v' hd))
end
end Go.Sl
