/- Part of the proof; no statement of its own: S7. -/
import Derived.Test.YtoolmpfkbaffcaaDoorFacts
import Derived.Test.YtoolmpfkbaffcaaDoorS6
set_option linter.all false
set_option maxRecDepth 4000
set_option maxHeartbeats 4000000
namespace Go.Proofs.YtoolmpfkbaffcaaDoor
open Go.Sl Go.Sc
theorem cuts_end (p : List UInt8) (l : List UInt8) (i : Nat) (h : i = l.length) : lnCuts p (l.drop i) = [p] := by subst h; rw [List.drop_length]; rfl
theorem cuts_hit (p : List UInt8) (l : List UInt8) (i : Nat) (h : i < l.length) (hc : l[i] = 32) : lnCuts p (l.drop i) = p :: lnCuts [] (l.drop (i + 1)) := by
  rw [List.drop_eq_getElem_cons h, lnCuts, if_pos hc]
theorem cuts_miss (p : List UInt8) (l : List UInt8) (i : Nat) (h : i < l.length) (hc : l[i] ≠ 32) : lnCuts p (l.drop i) = lnCuts (p ++ [l[i]]) (l.drop (i + 1)) := by
  rw [List.drop_eq_getElem_cons h, lnCuts, if_neg hc]
theorem cuts_len : ∀ (l p : List UInt8), (lnCuts p l).length ≤ l.length + 1
  | [], p => by simp [lnCuts]
  | c :: r, p => by
    rw [lnCuts]; split
    · have := cuts_len r []; simp; omega
    · have := cuts_len r (p ++ [c]); simp; omega
theorem drop_take_step (l : List UInt8) (i f : Nat) (h : i < l.length) (hf : f ≤ i) : (l.take (i + 1)).drop f = (l.take i).drop f ++ [l[i]] := by
  rw [List.take_succ, List.getElem?_eq_getElem h, List.drop_append_of_le_length (by simp; omega)]; rfl
def strV (l : List UInt8) : Value := .string (sb l)
theorem rsplit_spec (l : List UInt8) (hs : l.length ≤ 1000000) : Does Tryd.prog 17 #[.string (sb l)] []
    (GivesE (fun _ : Value => True) id fun v => [rowA 9 1 v (lnCuts [] l).length ((lnCuts [] l).map strV)]) := by
  have hsz := sb_size l
  have hcl := cuts_len l []
  refine does_enter Tryd.func17 rfl Tryd.ntmps17 rfl (fun R w0 => ?_)
  simp only [envOf, List.cons_append, List.nil_append]
  refine cw_seq ?_
  refine cw_region ?_
  refine ow_y (y_assign rfl) ?_
  refine ow_nil ?_
  refine kw_code (fun _ _ h => h) ?_
  refine cw_seq ?_
  refine cw_region ?_
  refine (ow_buildSlice F.sl41 F.z9 rfl rfl rfl (by simp [fillL, madeL, Value.cells] <;> rfl) (fun b6 => ?_))
  refine ow_y (y_assign rfl) ?_
  refine ow_nil ?_
  refine kw_code (fun _ _ h => h) ?_
  refine cw_seq ?_
  refine cw_said (fun w h => sat_rowNew (n := 0) rfl (by simp [maxLen]) h) ?_
  refine cw_region ?_
  refine ow_y (y_assign rfl) ?_
  refine ow_nil ?_
  refine kw_code (fun _ _ h => h) ?_
  refine cw_seq ?_
  refine cw_seq ?_
  refine cw_region ?_
  refine ow_y (y_assign rfl) ?_
  refine ow_nil ?_
  refine kw_code (fun _ _ h => h) ?_
  refine cw_block ?_
  refine cw_loop (X := {x : (Nat × Nat × List (List UInt8)) × Value // (x.1.1 ≤ l.length ∧ x.1.2.1 ≤ x.1.1 ∧ lnCuts [] l = x.1.2.2 ++ lnCuts ((l.take x.1.1).drop x.1.2.1) (l.drop x.1.1)) ∨ (x.1.1 = l.length + 1 ∧ lnCuts [] l = x.1.2.2)}) (fun x => [(0, .string (sb l)), (3, x.1.2), (4, .int .i64 x.1.1.2.1), (5, .int .i64 x.1.1.1)]) (fun x => [rowA 9 1 x.1.2 x.1.1.2.2.length (x.1.1.2.2.map strV), R]) (fun x => l.length + 1 - x.1.1.1) ⟨((0, 0, []), .slice (some ⟨b6, 0, none⟩) 0 0), .inl ⟨by dsimp only; omega, by dsimp only; omega, rfl⟩⟩ (by repeat (first | exact Sub.nil | refine Sub.cons rfl ?_)) (by repeat (first | exact Split.nil | apply Split.cons (by repeat (first | exact Fnd.here | apply Fnd.there)))) ?_
  rintro ⟨⟨⟨i, f, dn⟩, v⟩, hx⟩ m0 hm0
  try simp only at hm0
  try dsimp only
  dsimp only at hx
  refine cw_seq ?_
  refine cw_seq ?_
  refine cw_region ?_
  refine ow_y (y_move rfl) ?_
  refine ow_y (y_move rfl) ?_
  refine ow_y (y_len_str F.st9 rfl) ?_
  refine ow_y (y_leq rfl rfl) ?_
  refine ow_nil ?_
  refine kw_code (fun _ _ h => h) ?_
  refine cw_if rfl (fun hb10 => ?_) (fun hb10 => ?_)
  · skip
    have hil : i ≤ l.length := by have := of_decide_eq_true hb10; omega
    obtain ⟨_, hf, hcut⟩ : i ≤ l.length ∧ f ≤ i ∧ lnCuts [] l = dn ++ lnCuts ((l.take i).drop f) (l.drop i) := by rcases hx with h | ⟨h, _⟩; exact h; omega
    have hdl : dn.length ≤ l.length + 1 := by have := congrArg List.length hcut; simp at this; omega
    refine cw_skip ?_
    refine kw_code (fun _ _ h => h) ?_
    refine cw_seq ?_
    refine cw_block ?_
    refine cw_seq ?_
    by_cases he : i = l.length
    · skip
      refine cw_region ?_
      refine ow_y (y_move rfl) ?_
      refine ow_y (y_move rfl) ?_
      refine ow_y (y_len_str F.st9 rfl) ?_
      refine ow_y (y_eql rfl rfl) ?_
      refine ow_y (y_move rfl) ?_
      refine ow_skip rfl (fun a w hh => (want_of rfl rfl rfl hh).trans (wFT (by simp; omega))) ?_
      refine ow_skip rfl (fun a w hh => (want_of rfl rfl rfl hh).trans (wFT (by simp; omega))) ?_
      refine ow_skip rfl (fun a w hh => (want_of rfl rfl rfl hh).trans (wFT (by simp; omega))) ?_
      refine ow_skip rfl (fun a w hh => (want_of rfl rfl rfl hh).trans (wFT (by simp; omega))) ?_
      refine ow_y (y_pickT rfl (by simp; omega) rfl) ?_
      refine ow_nil ?_
      refine kw_code (fun _ _ h => h) ?_
      refine cw_true rfl rfl ?_
      refine cw_seq ?_
      refine cw_region ?_
      refine ow_y (y_move rfl) ?_
      refine ow_y (y_move rfl) ?_
      refine ow_y (y_move rfl) ?_
      refine ow_y (y_move rfl) ?_
      refine ow_y (y_cutLH F.st9 rfl rfl rfl (by omega)) ?_
      refine (ow_buildSlice F.sl41 F.z9 rfl rfl rfl (by simp [fillL, madeL, Value.cells] <;> rfl) (fun b28 => ?_))
      refine (ow_append F.sl41 F.tb9 F.z9 rfl rfl rfl (by repeat (first | exact Fnd.here | apply Fnd.there)) (src_blk F.sl41 (by simp; rfl) (by simp) (by simp [Value.oneCell'])) (by simp only [maxLen]; omega) (by omega) (fun v29 hv29 => ?_))
      refine ow_y (y_assign rfl) ?_
      refine ow_nil ?_
      rw [show dn.map strV ++ [Value.string ((sb l).extract f i)] = (dn ++ [(l.take i).drop f]).map strV from by rw [sb_cut]; simp [strV], show dn.length + 1 = (dn ++ [(l.take i).drop f]).length from by simp]
      refine kw_code (fun _ _ h => h) ?_
      refine cw_region ?_
      refine ow_y (y_move rfl) ?_
      refine ow_y (y_addI rfl rfl (by omega)) ?_
      refine ow_y (y_assign rfl) ?_
      refine ow_nil ?_
      refine kw_code (fun _ _ h => h) ?_
      refine cw_region ?_
      refine ow_y (y_move rfl) ?_
      refine ow_y (y_addI rfl rfl (by omega)) ?_
      refine ow_y (y_assign rfl) ?_
      refine ow_nil ?_
      refine kw_rnd (fun _ _ h => h) (⟨((i + 1, i + 1, dn ++ [(l.take i).drop f]), v29), .inr ⟨by dsimp only; omega, by rw [hcut, cuts_end _ l i he]⟩⟩) (by first | omega | (simp only; omega)) (by repeat (first | exact Sub.nil | refine Sub.cons rfl ?_)) (by repeat (first | exact Split.nil | apply Split.cons (by repeat (first | exact Fnd.here | apply Fnd.there))))
    · skip
      have hil2 : i < l.length := by omega
      have hu : (sb l).data.toList[i]? = some l[i] := by rw [sb_list]; exact List.getElem?_eq_getElem hil2
      refine cw_region ?_
      refine ow_y (y_move rfl) ?_
      refine ow_y (y_move rfl) ?_
      refine ow_y (y_len_str F.st9 rfl) ?_
      refine ow_y (y_eql rfl rfl) ?_
      refine ow_y (y_move rfl) ?_
      refine ow_yg (y_move rfl) (fun a w hh => (want_of rfl rfl rfl hh).trans (wFF (by simp; omega))) ?_
      refine ow_yg (y_move rfl) (fun a w hh => (want_of rfl rfl rfl hh).trans (wFF (by simp; omega))) ?_
      refine ow_yg (y_byte F.st9 rfl rfl (by omega) (u := l[i]) hu) (fun a w hh => (want_of rfl rfl rfl hh).trans (wFF (by simp; omega))) ?_
      refine ow_yg (y_eql rfl rfl) (fun a w hh => (want_of rfl rfl rfl hh).trans (wFF (by simp; omega))) ?_
      refine ow_y (y_pickF rfl (by simp; omega) rfl) ?_
      refine ow_nil ?_
      refine kw_code (fun _ _ h => h) ?_
      refine cw_if rfl (fun hb22 => ?_) (fun hb22 => ?_)
      · skip
        have hc : l[i] = 32 := UInt8.toNat_inj.1 (by have := eq_of_beq hb22; have e : (32 : UInt8).toNat = 32 := rfl; omega)
        refine cw_seq ?_
        refine cw_region ?_
        refine ow_y (y_move rfl) ?_
        refine ow_y (y_move rfl) ?_
        refine ow_y (y_move rfl) ?_
        refine ow_y (y_move rfl) ?_
        refine ow_y (y_cutLH F.st9 rfl rfl rfl (by omega)) ?_
        refine (ow_buildSlice F.sl41 F.z9 rfl rfl rfl (by simp [fillL, madeL, Value.cells] <;> rfl) (fun b28 => ?_))
        refine (ow_append F.sl41 F.tb9 F.z9 rfl rfl rfl (by repeat (first | exact Fnd.here | apply Fnd.there)) (src_blk F.sl41 (by simp; rfl) (by simp) (by simp [Value.oneCell'])) (by simp only [maxLen]; omega) (by omega) (fun v29 hv29 => ?_))
        refine ow_y (y_assign rfl) ?_
        refine ow_nil ?_
        rw [show dn.map strV ++ [Value.string ((sb l).extract f i)] = (dn ++ [(l.take i).drop f]).map strV from by rw [sb_cut]; simp [strV], show dn.length + 1 = (dn ++ [(l.take i).drop f]).length from by simp]
        refine kw_code (fun _ _ h => h) ?_
        refine cw_region ?_
        refine ow_y (y_move rfl) ?_
        refine ow_y (y_addI rfl rfl (by omega)) ?_
        refine ow_y (y_assign rfl) ?_
        refine ow_nil ?_
        refine kw_code (fun _ _ h => h) ?_
        refine cw_region ?_
        refine ow_y (y_move rfl) ?_
        refine ow_y (y_addI rfl rfl (by omega)) ?_
        refine ow_y (y_assign rfl) ?_
        refine ow_nil ?_
        refine kw_rnd (fun _ _ h => h) (⟨((i + 1, i + 1, dn ++ [(l.take i).drop f]), v29), .inl ⟨by dsimp only; omega, by dsimp only; omega, by rw [hcut, cuts_hit _ l i hil2 hc, show (l.take (i + 1)).drop (i + 1) = [] from List.drop_eq_nil_of_le (by simp; omega)]; simp⟩⟩) (by first | omega | (simp only; omega)) (by repeat (first | exact Sub.nil | refine Sub.cons rfl ?_)) (by repeat (first | exact Split.nil | apply Split.cons (by repeat (first | exact Fnd.here | apply Fnd.there))))
      · skip
        have hc : l[i] ≠ 32 := by intro h; rw [h] at hb22; exact absurd hb22 (by decide)
        refine cw_skip ?_
        refine kw_code (fun _ _ h => h) ?_
        refine cw_region ?_
        refine ow_y (y_move rfl) ?_
        refine ow_y (y_addI rfl rfl (by omega)) ?_
        refine ow_y (y_assign rfl) ?_
        refine ow_nil ?_
        refine kw_rnd (fun _ _ h => h) (⟨((i + 1, f, dn), v), .inl ⟨by dsimp only; omega, by dsimp only; omega, by rw [hcut, cuts_miss _ l i hil2 hc, drop_take_step l i f hil2 hf]⟩⟩) (by first | omega | (simp only; omega)) (by repeat (first | exact Sub.nil | refine Sub.cons rfl ?_)) (by repeat (first | exact Split.nil | apply Split.cons (by repeat (first | exact Fnd.here | apply Fnd.there))))
  · skip
    have hgt : ¬ i ≤ l.length := by have := of_decide_eq_false hb10; omega
    obtain ⟨_, rfl⟩ : i = l.length + 1 ∧ lnCuts [] l = dn := by rcases hx with ⟨h, _⟩ | h; exact absurd h hgt; exact h
    refine cw_exit ?_
    refine kw_code (fun _ _ h => h) ?_
    refine cw_seq ?_
    refine cw_region ?_
    refine ow_y (y_move rfl) ?_
    refine ow_y (y_assign rfl) ?_
    refine ow_nil ?_
    refine kw_code (fun _ _ h => h) ?_
    refine cw_retE v trivial (fun _ _ h => h) rfl rfl (by repeat (first | exact Split.nil | apply Split.cons (by repeat (first | exact Fnd.here | apply Fnd.there))))
end Go.Proofs.YtoolmpfkbaffcaaDoor
