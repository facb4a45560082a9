/- Part of the proof; no statement of its own: S12. -/
import Derived.Test.YtoolmpfkbaffcaaDoorFacts
import Derived.Test.YtoolmpfkbaffcaaDoorS11
set_option linter.all false
set_option maxRecDepth 4000
set_option maxHeartbeats 4000000
namespace Go.Proofs.YtoolmpfkbaffcaaDoor
open Go.Sl Go.Sc
def cutS (s : ByteArray) (n : Nat) : ByteArray := if s.size > n then s.extract 0 n else s
theorem cutS_le (s : ByteArray) (n : Nat) : (cutS s n).size ≤ n := by
  unfold cutS
  split
  · rw [ByteArray.size_extract]; omega
  · omega
theorem cut_spec (s : ByteArray) (n : Nat) (hs : s.size ≤ maxLen) : Does Tryd.prog 6 #[.string s, .int .i64 n] [] (Gives (.string (cutS s n)) []) := by
  simp only [maxLen] at hs
  refine does_enter Tryd.func6 rfl Tryd.ntmps6 rfl (fun R w0 => ?_)
  simp only [envOf, List.cons_append, List.nil_append]
  refine cw_seq ?_
  refine cw_region ?_
  refine ow_y (y_assign rfl) ?_
  refine ow_nil ?_
  refine kw_code (fun _ _ h => h) ?_
  refine cw_seq ?_
  refine cw_seq ?_
  refine cw_region ?_
  refine ow_y (y_move rfl) ?_
  refine ow_y (y_len_str F.st9 rfl) ?_
  refine ow_y (y_move rfl) ?_
  refine ow_y (y_gtr rfl rfl) ?_
  refine ow_nil ?_
  refine kw_code (fun _ _ h => h) ?_
  refine cw_if rfl (fun hb8 => ?_) (fun hb8 => ?_)
  · skip
    have hgt : s.size > n := by have := of_decide_eq_true hb8; omega
    refine cw_seq ?_
    refine cw_region ?_
    refine ow_y (y_move rfl) ?_
    refine ow_y (y_move rfl) ?_
    refine ow_y (y_cutH F.st9 rfl rfl (by omega)) ?_
    refine ow_y (y_assign rfl) ?_
    refine ow_nil ?_
    refine kw_code (fun _ _ h => h) ?_
    refine cw_retG (fun _ _ h => h) rfl (by simp [cutS, hgt]) (by repeat (first | exact Split.nil | apply Split.cons (by repeat (first | exact Fnd.here | apply Fnd.there))))
  · skip
    have hgt : ¬ s.size > n := by have := of_decide_eq_false hb8; omega
    refine cw_skip ?_
    refine kw_code (fun _ _ h => h) ?_
    refine cw_seq ?_
    refine cw_region ?_
    refine ow_y (y_move rfl) ?_
    refine ow_y (y_assign rfl) ?_
    refine ow_nil ?_
    refine kw_code (fun _ _ h => h) ?_
    refine cw_retG (fun _ _ h => h) rfl (by simp [cutS, hgt]) (by repeat (first | exact Split.nil | apply Split.cons (by repeat (first | exact Fnd.here | apply Fnd.there))))
theorem scriptWords_walk (W : World) (hW : ShW W) (s_ : ByteArray) (hs_ : s_.size ≤ maxLen) : Does Tryd.prog 4 #[.string s_] [whole W] (Gives (.bool true) [whole W]) := by
  have hc := cut_spec s_ 24 hs_
  have hl := cutS_le s_ 24
  generalize cutS s_ 24 = s at hc hl
  have hn := number_spec hW s (by omega)
  obtain ⟨l, rfl⟩ := ex_sb s
  have hr := rnumber_spec l (by have := sb_size l; omega)
  have hw := word_spec (sb l) (by simp only [maxLen]; omega)
  have hw2 := rword_spec (sb l) (by simp only [maxLen]; omega)
  unfold numV at hn
  rw [lnNum_eq, sb_list] at hn
  unfold rnumV at hr
  cases hx : refNum l with
  | none =>
    rw [hx] at hn hr
    refine does_enter Tryd.func4 rfl Tryd.ntmps4 rfl (fun R w0 => ?_)
    simp only [envOf, List.cons_append, List.nil_append]
    refine cw_seq ?_
    refine cw_region ?_
    refine ow_y (y_assign rfl) ?_
    refine ow_nil ?_
    refine kw_code (fun _ _ h => h) ?_
    refine cw_seq ?_
    refine cw_region ?_
    refine ow_y (y_move rfl) ?_
    refine ow_gives rfl F.hb6 rfl (hc) (by repeat (first | exact Split.nil | apply Split.cons (by repeat (first | exact Fnd.here | apply Fnd.there)))) ?_
    simp only [List.cons_append, List.nil_append]
    refine ow_y (y_assign rfl) ?_
    refine ow_nil ?_
    refine kw_code (fun _ _ h => h) ?_
    refine cw_seq ?_
    refine cw_seq ?_
    refine cw_region ?_
    refine ow_gives rfl F.hb7 rfl (scAwake_spec hW) (by repeat (first | exact Split.nil | apply Split.cons (by repeat (first | exact Fnd.here | apply Fnd.there)))) ?_
    simp only [List.cons_append, List.nil_append]
    refine ow_y (y_not rfl) ?_
    refine ow_nil ?_
    refine kw_code (fun _ _ h => h) ?_
    refine cw_false rfl rfl ?_
    refine cw_skip ?_
    refine kw_code (fun _ _ h => h) ?_
    refine cw_seq ?_
    refine cw_region ?_
    refine ow_y (y_move rfl) ?_
    refine ow_gives rfl F.hb12 rfl (hn) (by repeat (first | exact Split.nil | apply Split.cons (by repeat (first | exact Fnd.here | apply Fnd.there)))) ?_
    simp only [List.cons_append, List.nil_append]
    refine ow_y (y_move rfl) ?_
    refine ow_y (y_ext rfl rfl) ?_
    refine ow_y (y_ext rfl rfl) ?_
    refine ow_y (y_assign rfl) ?_
    refine ow_y (y_assign rfl) ?_
    refine ow_nil ?_
    refine kw_code (fun _ _ h => h) ?_
    refine cw_seq ?_
    refine cw_region ?_
    refine ow_y (y_move rfl) ?_
    refine ow_gives rfl F.hb13 rfl (hr) (by repeat (first | exact Split.nil | apply Split.cons (by repeat (first | exact Fnd.here | apply Fnd.there)))) ?_
    simp only [List.cons_append, List.nil_append]
    refine ow_y (y_move rfl) ?_
    refine ow_y (y_ext rfl rfl) ?_
    refine ow_y (y_ext rfl rfl) ?_
    refine ow_y (y_assign rfl) ?_
    refine ow_y (y_assign rfl) ?_
    refine ow_nil ?_
    refine kw_code (fun _ _ h => h) ?_
    refine cw_seq ?_
    refine cw_region ?_
    refine ow_y (y_move rfl) ?_
    refine ow_y (y_move rfl) ?_
    refine ow_y (y_eql rfl rfl) ?_
    refine ow_y (y_move rfl) ?_
    refine ow_yg (y_move rfl) (fun a w hh => (want_of rfl rfl rfl hh).trans (wTT rfl)) ?_
    refine ow_yg (y_eql rfl rfl) (fun a w hh => (want_of rfl rfl rfl hh).trans (wTT rfl)) ?_
    refine ow_yg (y_move rfl) (fun a w hh => (want_of rfl rfl rfl hh).trans (wTT rfl)) ?_
    refine ow_yg (y_bool_eql F.bo4 rfl rfl) (fun a w hh => (want_of rfl rfl rfl hh).trans (wTT rfl)) ?_
    refine ow_y (y_pickT rfl rfl rfl) ?_
    refine ow_y (y_move rfl) ?_
    refine ow_yg (y_move rfl) (fun a w hh => (want_of rfl rfl rfl hh).trans (wTT rfl)) ?_
    refine ow_yg (y_eql rfl rfl) (fun a w hh => (want_of rfl rfl rfl hh).trans (wTT rfl)) ?_
    refine ow_yg (y_move rfl) (fun a w hh => (want_of rfl rfl rfl hh).trans (wTT rfl)) ?_
    refine ow_yg (y_not rfl) (fun a w hh => (want_of rfl rfl rfl hh).trans (wTT rfl)) ?_
    refine ow_yg (y_bool_eql F.bo4 rfl rfl) (fun a w hh => (want_of rfl rfl rfl hh).trans (wTT rfl)) ?_
    refine ow_y (y_pickT rfl rfl rfl) ?_
    refine ow_y (y_move rfl) ?_
    refine ow_yg (y_move rfl) (fun a w hh => (want_of rfl rfl rfl hh).trans (wTT rfl)) ?_
    refine ow_want (fun a w hh => (want_of rfl rfl rfl hh).trans (wTT rfl)) ?_
    refine ow_gives rfl F.hb14 rfl (hw) (by repeat (first | exact Split.nil | apply Split.cons (by repeat (first | exact Fnd.here | apply Fnd.there)))) ?_
    simp only [List.cons_append, List.nil_append]
    refine ow_yg (y_move rfl) (fun a w hh => (want_of rfl rfl rfl hh).trans (wTT rfl)) ?_
    refine ow_want (fun a w hh => (want_of rfl rfl rfl hh).trans (wTT rfl)) ?_
    refine ow_gives rfl F.hb15 rfl (hw2) (by repeat (first | exact Split.nil | apply Split.cons (by repeat (first | exact Fnd.here | apply Fnd.there)))) ?_
    simp only [List.cons_append, List.nil_append]
    refine ow_yg (y_bool_eql F.bo4 rfl rfl) (fun a w hh => (want_of rfl rfl rfl hh).trans (wTT rfl)) ?_
    refine ow_y (y_pickT rfl rfl rfl) ?_
    refine ow_y (y_assign rfl) ?_
    refine ow_nil ?_
    refine kw_code (fun _ _ h => h) ?_
    refine cw_retG (fun _ _ h => h) rfl (by simp) (by repeat (first | exact Split.nil | apply Split.cons (by repeat (first | exact Fnd.here | apply Fnd.there))))
  | some v =>
    rw [hx] at hn hr
    refine does_enter Tryd.func4 rfl Tryd.ntmps4 rfl (fun R w0 => ?_)
    simp only [envOf, List.cons_append, List.nil_append]
    refine cw_seq ?_
    refine cw_region ?_
    refine ow_y (y_assign rfl) ?_
    refine ow_nil ?_
    refine kw_code (fun _ _ h => h) ?_
    refine cw_seq ?_
    refine cw_region ?_
    refine ow_y (y_move rfl) ?_
    refine ow_gives rfl F.hb6 rfl (hc) (by repeat (first | exact Split.nil | apply Split.cons (by repeat (first | exact Fnd.here | apply Fnd.there)))) ?_
    simp only [List.cons_append, List.nil_append]
    refine ow_y (y_assign rfl) ?_
    refine ow_nil ?_
    refine kw_code (fun _ _ h => h) ?_
    refine cw_seq ?_
    refine cw_seq ?_
    refine cw_region ?_
    refine ow_gives rfl F.hb7 rfl (scAwake_spec hW) (by repeat (first | exact Split.nil | apply Split.cons (by repeat (first | exact Fnd.here | apply Fnd.there)))) ?_
    simp only [List.cons_append, List.nil_append]
    refine ow_y (y_not rfl) ?_
    refine ow_nil ?_
    refine kw_code (fun _ _ h => h) ?_
    refine cw_false rfl rfl ?_
    refine cw_skip ?_
    refine kw_code (fun _ _ h => h) ?_
    refine cw_seq ?_
    refine cw_region ?_
    refine ow_y (y_move rfl) ?_
    refine ow_gives rfl F.hb12 rfl (hn) (by repeat (first | exact Split.nil | apply Split.cons (by repeat (first | exact Fnd.here | apply Fnd.there)))) ?_
    simp only [List.cons_append, List.nil_append]
    refine ow_y (y_move rfl) ?_
    refine ow_y (y_ext rfl rfl) ?_
    refine ow_y (y_ext rfl rfl) ?_
    refine ow_y (y_assign rfl) ?_
    refine ow_y (y_assign rfl) ?_
    refine ow_nil ?_
    refine kw_code (fun _ _ h => h) ?_
    refine cw_seq ?_
    refine cw_region ?_
    refine ow_y (y_move rfl) ?_
    refine ow_gives rfl F.hb13 rfl (hr) (by repeat (first | exact Split.nil | apply Split.cons (by repeat (first | exact Fnd.here | apply Fnd.there)))) ?_
    simp only [List.cons_append, List.nil_append]
    refine ow_y (y_move rfl) ?_
    refine ow_y (y_ext rfl rfl) ?_
    refine ow_y (y_ext rfl rfl) ?_
    refine ow_y (y_assign rfl) ?_
    refine ow_y (y_assign rfl) ?_
    refine ow_nil ?_
    refine kw_code (fun _ _ h => h) ?_
    refine cw_seq ?_
    refine cw_region ?_
    refine ow_y (y_move rfl) ?_
    refine ow_y (y_move rfl) ?_
    refine ow_y (y_eql rfl rfl) ?_
    refine ow_y (y_move rfl) ?_
    refine ow_yg (y_move rfl) (fun a w hh => (want_of rfl rfl rfl hh).trans (wTT (beq_self_eq_true _))) ?_
    refine ow_yg (y_eql rfl rfl) (fun a w hh => (want_of rfl rfl rfl hh).trans (wTT (beq_self_eq_true _))) ?_
    refine ow_yg (y_move rfl) (fun a w hh => (want_of rfl rfl rfl hh).trans (wTT (beq_self_eq_true _))) ?_
    refine ow_yg (y_bool_eql F.bo4 rfl rfl) (fun a w hh => (want_of rfl rfl rfl hh).trans (wTT (beq_self_eq_true _))) ?_
    refine ow_y (y_pickT rfl (beq_self_eq_true _) rfl) ?_
    refine ow_y (y_move rfl) ?_
    refine ow_yg (y_move rfl) (fun a w hh => (want_of rfl rfl rfl hh).trans (wTT rfl)) ?_
    refine ow_yg (y_eql rfl rfl) (fun a w hh => (want_of rfl rfl rfl hh).trans (wTT rfl)) ?_
    refine ow_yg (y_move rfl) (fun a w hh => (want_of rfl rfl rfl hh).trans (wTT rfl)) ?_
    refine ow_yg (y_not rfl) (fun a w hh => (want_of rfl rfl rfl hh).trans (wTT rfl)) ?_
    refine ow_yg (y_bool_eql F.bo4 rfl rfl) (fun a w hh => (want_of rfl rfl rfl hh).trans (wTT rfl)) ?_
    refine ow_y (y_pickT rfl rfl rfl) ?_
    refine ow_y (y_move rfl) ?_
    refine ow_yg (y_move rfl) (fun a w hh => (want_of rfl rfl rfl hh).trans (wTT rfl)) ?_
    refine ow_want (fun a w hh => (want_of rfl rfl rfl hh).trans (wTT rfl)) ?_
    refine ow_gives rfl F.hb14 rfl (hw) (by repeat (first | exact Split.nil | apply Split.cons (by repeat (first | exact Fnd.here | apply Fnd.there)))) ?_
    simp only [List.cons_append, List.nil_append]
    refine ow_yg (y_move rfl) (fun a w hh => (want_of rfl rfl rfl hh).trans (wTT rfl)) ?_
    refine ow_want (fun a w hh => (want_of rfl rfl rfl hh).trans (wTT rfl)) ?_
    refine ow_gives rfl F.hb15 rfl (hw2) (by repeat (first | exact Split.nil | apply Split.cons (by repeat (first | exact Fnd.here | apply Fnd.there)))) ?_
    simp only [List.cons_append, List.nil_append]
    refine ow_yg (y_bool_eql F.bo4 rfl rfl) (fun a w hh => (want_of rfl rfl rfl hh).trans (wTT rfl)) ?_
    refine ow_y (y_pickT rfl rfl rfl) ?_
    refine ow_y (y_assign rfl) ?_
    refine ow_nil ?_
    refine kw_code (fun _ _ h => h) ?_
    refine cw_retG (fun _ _ h => h) rfl (by simp) (by repeat (first | exact Split.nil | apply Split.cons (by repeat (first | exact Fnd.here | apply Fnd.there))))
end Go.Proofs.YtoolmpfkbaffcaaDoor
