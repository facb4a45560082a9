/- Part of the proof; no statement of its own: G5. -/
import Derived.Test.YtofffddcbjkdcaaG4
set_option linter.all false
namespace Go.Proofs.Ytofffddcbjkdcaa
open Go.Sl
theorem heldL_append (fr : Nat) : ∀ (l m : List Nat) (i : Nat), heldL fr i (l ++ m) = heldL fr i l ++ heldL fr (i + l.length) m
  | [], m, i => by simp [heldL]
  | x :: l, m, i => by
    have h := heldL_append fr l m (i + 1)
    simp only [List.cons_append, heldL, h, List.length_cons]
    rw [show i + 1 + l.length = i + (l.length + 1) by omega]
    split <;> rfl
theorem heldL_len (fr : Nat) : ∀ (l : List Nat) (i : Nat), (heldL fr i l).length = l.count 1
  | [], i => by simp [heldL]
  | x :: l, i => by
    simp only [heldL, List.count_cons]
    split
    · rename_i h; simp [heldL_len fr l, h]
    · rename_i h; rw [heldL_len fr l]; simp [h]
theorem heldL_take (fr : Nat) (l : List Nat) (i : Nat) (h : i < l.length) : heldL fr 0 (l.take (i + 1)) = heldL fr 0 (l.take i) ++ (if l[i] = 1 then [.int .i64 (fr + i)] else []) := by
  rw [List.take_succ, heldL_append, List.length_take, Nat.min_eq_left (by omega), List.getElem?_eq_getElem h]
  simp only [Option.toList, heldL, Nat.zero_add]
theorem gall_spec (b bl fr : Nat) (l : List Nat) (hfr : fr ≤ 5000) (hl : l.length ≤ 5000) :
    Does Try.prog 22 #[.pointer (some ⟨b, 0, none⟩)] (gm b bl fr l)
      (GivesE (fun _ : Value => True) (fun v => v) (fun v => rowA 3 1 v (l.count 1) (heldL fr 0 l) :: gm b bl fr l)) := by
  refine does_enter Try.func22 rfl Try.ntmps22 rfl (fun R w0 => ?_)
  simp only [envOf, List.cons_append, List.nil_append, gm, gcells]
  refine cw_seq ?_
  refine cw_region ?_
  refine ow_y (y_assign rfl) ?_
  refine ow_nil ?_
  refine kw_code (fun _ _ h => h) ?_
  refine cw_seq ?_
  refine cw_region ?_
  refine ow_y (y_assign rfl) ?_
  refine ow_nil ?_
  refine kw_code (fun _ _ h => h) ?_
  refine cw_seq ?_
  refine cw_seq ?_
  refine cw_region ?_
  refine ow_y (y_move rfl) ?_
  refine ow_y (y_nil rfl) ?_
  refine ow_y (y_fld F.fld64_1 rfl) ?_
  refine ow_y (y_load F.sc35 rfl (by rfl)) ?_
  refine ow_y (y_len_slice F.sl35 rfl) ?_
  refine ow_y (y_move rfl) ?_
  refine ow_nil ?_
  refine kw_code (fun _ _ h => h) ?_
  refine cw_block ?_
  refine cw_said (fun w h => sat_row_nil 3 1 w h) ?_
  refine cw_loop (X := {x : Nat × Value // x.1 ≤ l.length}) (fun x => [(0, .pointer (some ⟨b, 0, none⟩)), (3, x.1.2), (9, .slice (some ⟨bl, 0, none⟩) l.length l.length), (10, .int .i64 l.length), (11, .int .i64 x.1.1)]) (fun x => rowA 3 1 x.1.2 ((l.take x.1.1).count 1) (heldL fr 0 (l.take x.1.1)) :: gm b bl fr l ++ [R]) (fun x => l.length - x.1.1) ⟨(0, .slice none 0 0), by simp⟩ (by repeat (first | exact Sub.nil | refine Sub.cons rfl ?_)) (by repeat (first | exact Split.nil | apply Split.cons (by repeat (first | exact Fnd.here | apply Fnd.there)))) ?_
  rintro ⟨⟨i, v⟩, hi⟩ m0 hm0
  try simp only at hm0
  simp only at hi
  have hcl : (l.take i).count 1 ≤ 5000 := Nat.le_trans List.count_le_length (by simp; omega)
  simp only [gm, gcells, List.cons_append, List.nil_append]
  refine cw_seq ?_
  refine cw_region ?_
  refine ow_y (y_lss rfl rfl) ?_
  refine ow_nil ?_
  refine kw_code (fun _ _ h => h) ?_
  refine cw_seq ?_
  refine cw_if rfl (fun hb12 => ?_) (fun hb12 => ?_)
  · skip
    have hlt : i < l.length := by have := of_decide_eq_true hb12; omega
    have hs : l[i]? = some l[i] := List.getElem?_eq_getElem hlt
    have hcnt : (l.take (i + 1)).count 1 = (l.take i).count 1 + (if l[i] = 1 then 1 else 0) := by
      rw [List.take_succ, List.count_append, hs]; simp [List.count_cons]
    refine cw_skip ?_
    refine kw_code (fun _ _ h => h) ?_
    refine cw_seq ?_
    refine cw_block ?_
    refine cw_seq ?_
    refine cw_region ?_
    refine ow_y (y_move rfl) ?_
    refine ow_y (y_ixs F.sl35 rfl rfl (by omega)) ?_
    refine ow_y (y_load F.sc3 rfl (gst_at hs (by omega))) ?_
    refine ow_y (y_assign rfl) ?_
    refine ow_y (y_assign rfl) ?_
    refine ow_nil ?_
    refine kw_code (fun _ _ h => h) ?_
    refine cw_seq ?_
    refine cw_region ?_
    refine ow_y (y_move rfl) ?_
    refine ow_y (y_eql rfl rfl) ?_
    refine ow_nil ?_
    refine kw_code (fun _ _ h => h) ?_
    refine cw_if rfl (fun hb17 => ?_) (fun hb17 => ?_)
    · skip
      have hz : l[i] = 1 := by have := eq_of_beq hb17; omega
      refine cw_region ?_
      refine ow_y (y_move rfl) ?_
      refine ow_y (y_move rfl) ?_
      refine ow_y (y_nil rfl) ?_
      refine ow_y (y_fld F.fld64_0 rfl) ?_
      refine ow_y (y_load F.sc3 rfl (by rfl)) ?_
      refine ow_y (y_move rfl) ?_
      refine ow_y (y_addI rfl rfl (by omega)) ?_
      refine (ow_buildSlice F.sl35 F.z3 rfl rfl rfl (by simp [fillL, madeL, Value.cells] <;> rfl) (fun b25 => ?_))
      refine (ow_append F.sl35 F.tb3 F.z3 rfl rfl rfl (by repeat (first | exact Fnd.here | apply Fnd.there)) (src_blk F.sl35 (by simp; rfl) (by simp) (by simp [Value.oneCell'])) (by simp only [maxLen]; omega) (by omega) (fun v26 => ?_))
      refine ow_y (y_assign rfl) ?_
      refine ow_nil ?_
      refine kw_code (fun _ _ h => h) ?_
      refine cw_region ?_
      refine ow_y (y_addI rfl rfl (by omega)) ?_
      refine ow_y (y_move rfl) ?_
      refine ow_nil ?_
      rw [show heldL fr 0 (l.take i) ++ [.int .i64 ((fr : Int) + i)] = heldL fr 0 (l.take (i + 1)) from by rw [heldL_take fr l i hlt, if_pos hz], show (l.take i).count 1 + 1 = (l.take (i + 1)).count 1 from by rw [hcnt, if_pos hz]]
      refine kw_rnd (fun _ _ h => h) (⟨(i + 1, v26), hlt⟩) (by first | omega | (simp only; omega)) (by repeat (first | exact Sub.nil | refine Sub.cons rfl ?_)) (by repeat (first | exact Split.nil | apply Split.cons (by repeat (first | exact Fnd.here | apply Fnd.there))))
    · skip
      have hz : l[i] ≠ 1 := by intro h; rw [h] at hb17; exact absurd hb17 (by decide)
      refine cw_skip ?_
      refine kw_code (fun _ _ h => h) ?_
      refine cw_region ?_
      refine ow_y (y_addI rfl rfl (by omega)) ?_
      refine ow_y (y_move rfl) ?_
      refine ow_nil ?_
      rw [show heldL fr 0 (l.take i) = heldL fr 0 (l.take (i + 1)) from by rw [heldL_take fr l i hlt, if_neg hz, List.append_nil], show (l.take i).count 1 = (l.take (i + 1)).count 1 from by rw [hcnt, if_neg hz, Nat.add_zero]]
      refine kw_rnd (fun _ _ h => h) (⟨(i + 1, v), hlt⟩) (by first | omega | (simp only; omega)) (by repeat (first | exact Sub.nil | refine Sub.cons rfl ?_)) (by repeat (first | exact Split.nil | apply Split.cons (by repeat (first | exact Fnd.here | apply Fnd.there))))
  · skip
    have hge : i = l.length := by have := of_decide_eq_false hb12; omega
    subst hge
    rw [List.take_length]
    refine cw_exit ?_
    refine kw_code (fun _ _ h => h) ?_
    refine cw_seq ?_
    refine cw_region ?_
    refine ow_y (y_move rfl) ?_
    refine ow_y (y_assign rfl) ?_
    refine ow_nil ?_
    refine kw_code (fun _ _ h => h) ?_
    refine cw_retE v trivial (fun _ _ h => h) rfl rfl (by repeat (first | exact Split.nil | apply Split.cons (by repeat (first | exact Fnd.here | apply Fnd.there))))
end Go.Proofs.Ytofffddcbjkdcaa
