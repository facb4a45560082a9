/- append, to a slice that has no room: what there was stays as it is. -/
import Derived.Test.YtoolmpfkbaffcaaDoorSlDefer2
set_option linter.all false
namespace Go.Sl
open Go.BigFrame
section
variable {c : Cx} {ops : Array Oper} {Q : Exit → Act → World → Prop} {rest : List Oper} {env : List (Nat × Value)} {L M : List Asrt}
  {d : Tmp} {ty : TypeId} {pos : String} {af : Array Edge}
theorem ow_appendFull {s x : Operand} {t tx e size bytes n m : Nat} {base : Option Addr} {y z : Value} {xs news : List Value} (ht : tySlice c.P t e size = true) (hby : tyBytes c.P e bytes = true)
    (hz : (match c.P.info? e with | some i => i.zero | none => none) = some z) (hzs : z.cells.size = size) (hs : evo env s = some (.slice base n n)) (hx : evo env x = some y)
    (hold : ∀ a w, Holds c env L a w → (Builtin.firstCells size n (.slice base n n)).run c.P w.drew = .ok xs.toArray w.drew) (hxs : xs.length = n * size)
    (hsrc : ∀ a w, Holds c env L a w → Src c.P size tx y m news w) (hm : 0 < m) (h63 : n + m ≤ maxLen) (hb : (n + m) * bytes ≤ 140737488355328)
    (h : ∀ (b cap : Nat) (cur : List Value), n + m ≤ cap → cap ≤ maxLen → cur.length = cap * size → cur.take ((n + m) * size) = xs ++ news → OW c ops Q rest ((d, .slice (some ⟨b, 0, none⟩) (n + m) cap) :: env) (pts b (.cells cur.toArray e (0, 0)) :: L)) (hd : Nat.blt d c.n = true := by rfl) :
    OW c ops Q (⟨some d, .call { callee := .builtin .append, args := #[s, x], argTypes := #[t, tx] }, ty, pos, af, none⟩ :: rest) env L := by
  intro a w hh
  simp only [tySlice, Bool.and_eq_true] at ht
  obtain ⟨ht1, ht2⟩ := ht
  split at ht1
  case h_2 => cases ht1
  rename_i e' hu
  simp only [beq_iff_eq] at ht1; subst ht1
  unfold tyBytes at hby
  split at ht2
  case h_2 => cases ht2
  rename_i i hi
  rw [hi] at hby hz
  simp only [beq_iff_eq] at ht2 hby
  subst ht2; subst hby
  have hsr := hsrc a w hh
  refine wpList_plain rfl fun K hK => ?_
  have hnl : news.length = m * i.size := hsr.newsLen
  have hlen' : (xs ++ news).length = (n + m) * i.size := by rw [List.length_append, hxs, hnl, Nat.add_mul]
  have hr := run_append_grow_src (P := c.P) (w := w) t tx ty e' i z hu hi hz base n n xs (hold a w hh) y m news hsr (by omega) (by simp only [maxLen] at h63; omega) (growslice_fits (by omega) hb)
  have hge := grownCap_ge w (n + m) n e'
  have h2 : ((xs ++ news).toArray ++ Builtin.zeroCells z.cells (grownCap w (n + m) n e' - (n + m))) = ((xs ++ news) ++ (Builtin.zeroCells z.cells (grownCap w (n + m) n e' - (n + m))).toList).toArray := by
    apply Array.ext'; simp
  rw [h2] at hr
  unfold Oper.wp
  rw [execOp_builtin, builtin_append]
  have e1 : (#[s, x] : Array Operand).map a.eval = #[.slice base n n, y] := by simp [hh.eval hs, hh.eval hx]
  rw [e1]
  simp only [Sem.run_bind, hr, Result.andThen_ok, Sem.run_pure, Oper.upon]
  refine hK _ _ (h w.heap.size _ _ hge (grownCap_le_maxLen w (n + m) n e' h63) ?_ ?_ _ _ ((⟨hh.size, hh.slots, hh.defers, (hh.sat.drew).alloc _, (hh.like.drew).alloc _⟩ : Holds c env _ a _).put d _ hd))
  · rw [List.length_append, hlen', Array.length_toList, size_zeroCells, hzs, ← Nat.add_mul]
    congr 1; omega
  · rw [← hlen']; exact List.take_left
/-- what a row holds, to be copied on -/
theorem hold_row {size n : Nat} {e : TypeId} {g : Nat} {cur xs : List Value} [hL : FndB L g (.cells cur.toArray e (0, 0)) M] (hl : n * size ≤ cur.length) (ht : cur.take (n * size) = xs) :
    ∀ a w, Holds c env L a w → (Builtin.firstCells size n (.slice (some ⟨g, 0, none⟩) n n)).run c.P w.drew = .ok xs.toArray w.drew := by
  intro a w hh
  have hM := hL.sat hh.sat
  have h1 := run_loadCells_blk (P := c.P) (w := w.drew) (b := g) (o := 0) (n := n * size) (cs := cur.toArray) (e := e) (fr := (0, 0)) hM.drew.pts (by rw [List.size_toArray, Nat.zero_add]; exact hl)
  have h2 : cur.toArray.extract 0 (0 + n * size) = xs.toArray := by apply Array.ext'; simp [ht]
  simp only [Builtin.firstCells]
  rw [h1, h2]
theorem hold_nil {size : Nat} : ∀ a w, Holds c env L a w → (Builtin.firstCells size 0 (.slice none 0 0)).run c.P w.drew = .ok ([] : List Value).toArray w.drew := by
  intro a w hh
  simp [Builtin.firstCells]
end
end Go.Sl
