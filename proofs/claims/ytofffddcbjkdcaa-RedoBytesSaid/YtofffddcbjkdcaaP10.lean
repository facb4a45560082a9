/- Part of the proof; no statement of its own: P10. -/
import Derived.Test.YtofffddcbjkdcaaP9
set_option linter.all false
namespace Go.Proofs.Ytofffddcbjkdcaa
open Go.Sl
theorem ex_bs (s : ByteArray) : ∃ l, s = bs l := ⟨s.data.toList, ba_ext (by simp)⟩
def kindL (l : List UInt8) : Nat := if errL l = 0 then be (l.take 1) else 0
def idL (l : List UInt8) : Nat := if errL l = 0 then be ((l.drop 1).take 4) else 0
def atL (l : List UInt8) : Nat := if errL l = 0 then be ((l.drop 5).take 2) else 0
def nL (l : List UInt8) : Nat := if errL l = 0 then be ((l.drop 7).take 2) else 0
def dataL (l : List UInt8) : ByteArray := if errL l = 0 then bs (l.drop 9) else ByteArray.empty
theorem resC_eq (l : List UInt8) : resC l = opC (kindL l) (idL l) (atL l) (nL l) (dataL l) := by
  unfold resC kindL idL atL nL dataL; split <;> rfl
theorem refC_eq (l : List UInt8) : refC l = rpC (kindL l) (idL l) (atL l) (nL l) (dataL l) := by
  unfold refC kindL idL atL nL dataL; split <;> rfl
theorem idL_lt (l : List UInt8) : idL l < 4294967296 := by
  unfold idL; split
  · exact be_bound4 _ (by simp; omega)
  · omega
theorem eqK_rp (kind id at_ n : Nat) (d : ByteArray) : eqK [0, 0, 0, 0, 1] (rpC kind id at_ n d) (rpC kind id at_ n d) = some true := by
  simp [rpC, eqK]
theorem redoParses_walk (W : World) (s_ : ByteArray) (hs_ : s_.size ≤ maxLen) : Does Try.prog 10 #[.string s_] [whole W] (Gives (.bool true) [whole W]) := by
  have hc := cut_spec s_ 100 hs_
  have hl : (cutS s_ 100).size ≤ 100 := by
    unfold cutS; split
    · rw [ByteArray.size_extract]; omega
    · omega
  generalize cutS s_ 100 = s at hc hl
  obtain ⟨l, rfl⟩ := ex_bs s
  rw [bs_size] at hl
  have hp := lparse_spec l (by omega)
  have hr := refParse_spec l (by omega)
  rw [resC_eq] at hp
  rw [refC_eq] at hr
  have ht := told_spec (kindL l) (idL l) (atL l) (nL l) (dataL l) (idL_lt l)
  refine does_enter Try.func10 rfl Try.ntmps10 rfl (fun R w0 => ?_)
  simp only [envOf, List.cons_append, List.nil_append]
  refine cw_seq ?_
  refine cw_region ?_
  refine ow_y (y_assign rfl) ?_
  refine ow_nil ?_
  refine kw_code (fun _ _ h => h) ?_
  refine cw_seq ?_
  refine cw_region ?_
  refine ow_y (y_move rfl) ?_
  refine ow_gives rfl F.hb11 rfl (hc) (by repeat (first | exact Split.nil | apply Split.cons (by repeat (first | exact Fnd.here | apply Fnd.there)))) ?_
  simp only [List.cons_append, List.nil_append]
  refine ow_y (y_assign rfl) ?_
  refine ow_nil ?_
  refine kw_code (fun _ _ h => h) ?_
  refine cw_seq ?_
  refine cw_seq ?_
  refine cw_region ?_
  refine ow_gives rfl F.hb28 rfl (redoAwake_spec) (by repeat (first | exact Split.nil | apply Split.cons (by repeat (first | exact Fnd.here | apply Fnd.there)))) ?_
  simp only [List.cons_append, List.nil_append]
  refine ow_y (y_not rfl) ?_
  refine ow_nil ?_
  refine kw_code (fun _ _ h => h) ?_
  refine cw_false rfl (by first | rfl | exact decide_eq_false (by omega)) ?_
  refine cw_skip ?_
  refine kw_code (fun _ _ h => h) ?_
  refine cw_seq ?_
  refine cw_region ?_
  refine ow_y (y_move rfl) ?_
  refine ow_gives rfl F.hb30 rfl (hp) (by repeat (first | exact Split.nil | apply Split.cons (by repeat (first | exact Fnd.here | apply Fnd.there)))) ?_
  simp only [List.cons_append, List.nil_append]
  refine ow_y (y_move rfl) ?_
  refine ow_y (y_ext rfl rfl) ?_
  refine ow_y (y_ext rfl rfl) ?_
  refine (ow_alloc F.z46 (fun b3 => ?_))
  refine ow_storeAgg F.sz46 rfl rfl (by simp [opC]) (by simp [opC, Value.oneCell']) (by simp [opC, Value.cells]) (splice_all (by simp [opC, Value.cells])) ?_
  refine ow_y (y_assign rfl) ?_
  refine ow_nil ?_
  refine kw_code (fun _ _ h => h) ?_
  refine cw_seq ?_
  refine cw_region ?_
  refine ow_y (y_move rfl) ?_
  refine ow_gives rfl F.hb33 rfl (hr) (by repeat (first | exact Split.nil | apply Split.cons (by repeat (first | exact Fnd.here | apply Fnd.there)))) ?_
  simp only [List.cons_append, List.nil_append]
  refine ow_y (y_move rfl) ?_
  refine ow_y (y_ext rfl rfl) ?_
  refine ow_y (y_ext rfl rfl) ?_
  refine (ow_alloc F.z53 (fun b5 => ?_))
  refine ow_storeAgg F.sz53 rfl rfl (by simp [rpC]) (by simp [rpC, Value.oneCell']) (by simp [rpC, Value.cells]) (splice_all (by simp [rpC, Value.cells])) ?_
  refine ow_y (y_assign rfl) ?_
  refine ow_nil ?_
  refine kw_code (fun _ _ h => h) ?_
  refine cw_seq ?_
  by_cases h0 : errL l = 0
  · skip
    have hlen : ¬ l.length < 9 := by intro h; unfold errL at h0; rw [if_pos h] at h0; cases h0
    have hb := opBytes_spec (kindL l) (idL l) (atL l) (nL l) (dataL l) (by unfold kindL; rw [if_pos h0]; exact Nat.lt_of_lt_of_le (be_lt _) (Nat.pow_le_pow_right (n := 256) (j := 1) (by decide) (by simp; omega))) (idL_lt l) (by unfold atL; rw [if_pos h0]; exact Nat.lt_of_lt_of_le (be_lt _) (Nat.pow_le_pow_right (n := 256) (j := 2) (by decide) (by simp; omega))) (by unfold nL; rw [if_pos h0]; exact Nat.lt_of_lt_of_le (be_lt _) (Nat.pow_le_pow_right (n := 256) (j := 2) (by decide) (by simp; omega))) (by unfold dataL; rw [if_pos h0, bs_size]; simp; omega)
    have hbl : opB (kindL l) (idL l) (atL l) (nL l) (dataL l).data.toList = l := by unfold kindL idL atL nL dataL; rw [if_pos h0, if_pos h0, if_pos h0, if_pos h0, if_pos h0, bs_list]; exact opB_parse l (by omega)
    rw [hbl] at hb
    refine cw_mix (.soft 0 (.soft 1 (.soft 2 (.soft 3 (.soft 4 (.soft 6 (.hard 5 (.soft 7 (.soft 8 (.soft 9 (.soft 10 (.soft 11 (.soft 12 (.soft 13 (.soft 15 (.hard 14 (.soft 16 (.soft 17 (.soft 18 (.soft 19 .done)))))))))))))))))))) [pts b3 (.cells (opC (kindL l) (idL l) (atL l) (nL l) (dataL l)).toArray 46 (0, 0)), pts b5 (.cells (rpC (kindL l) (idL l) (atL l) (nL l) (dataL l)).toArray 53 (0, 0))] F.fol (by kernel_rfl) (by repeat (first | with_reducible exact NoSlots.bp | with_reducible apply NoSlots.then | with_reducible apply NoSlots.inBlock)) (by repeat (first | exact Split.nil | apply Split.cons (by repeat (first | exact Fnd.here | apply Fnd.there)))) ?_
    refine om_y rfl (y_move rfl) ?_
    refine om_y rfl (y_move rfl) ?_
    refine om_y rfl (y_eql rfl rfl) ?_
    refine om_y rfl (y_move rfl) ?_
    refine om_yg rfl (y_loadAgg F.ag46 rfl (by simp [opC]) (extract_all (by simp [opC]))) (fun a w hh => (want_of rfl rfl rfl hh).trans (wTT (beq_self_eq_true _))) ?_
    refine om_yg rfl (y_loadAgg F.ag53 rfl (by simp [rpC]) (extract_all (by simp [rpC]))) (fun a w hh => (want_of rfl rfl rfl hh).trans (wTT (beq_self_eq_true _))) ?_
    refine om_h rfl ?_
    refine ow_want (fun a w hh => (want_of rfl rfl rfl hh).trans (wTT (beq_self_eq_true _))) ?_
    refine ow_gives rfl F.hb32 rfl (ht) (by repeat (first | exact Split.nil | apply Split.cons (by repeat (first | exact Fnd.here | apply Fnd.there)))) ?_
    simp only [List.cons_append, List.nil_append]
    refine ow_nil ?_
    refine om_next (by repeat (first | exact Split.nil | apply Split.cons (by repeat (first | exact Fnd.here | apply Fnd.there)))) ?_
    refine om_yg rfl (y_struct_eql F.fk53 rfl rfl (eqK_rp _ _ _ _ _)) (fun a w hh => (want_of rfl rfl rfl hh).trans (wTT (beq_self_eq_true _))) ?_
    refine om_y rfl (y_pickT rfl (beq_self_eq_true _) rfl) ?_
    refine om_y rfl (y_move rfl) ?_
    refine om_yg rfl (y_move rfl) (fun a w hh => (want_of rfl rfl rfl hh).trans (wTT (by first | rfl | exact decide_eq_true (by omega)))) ?_
    refine om_yg rfl (y_neq rfl rfl) (fun a w hh => (want_of rfl rfl rfl hh).trans (wTT (by first | rfl | exact decide_eq_true (by omega)))) ?_
    refine om_yg rfl (y_move rfl) (fun a w hh => (want_of rfl rfl rfl hh).trans (wTT (by first | rfl | exact decide_eq_true (by omega)))) ?_
    refine om_yg rfl (y_loadAgg F.ag46 rfl (by simp [opC]) (extract_all (by simp [opC]))) (fun a w hh => (want_of rfl rfl rfl hh).trans (wFF (by rw [h0]; rfl))) ?_
    refine om_yg rfl (y_move rfl) (fun a w hh => (want_of rfl rfl rfl hh).trans (wFF (by rw [h0]; rfl))) ?_
    refine om_h rfl ?_
    refine ow_want (fun a w hh => (want_of rfl rfl rfl hh).trans (wFF (by rw [h0]; rfl))) ?_
    refine ow_gives rfl F.hb29 rfl (hb) (by repeat (first | exact Split.nil | apply Split.cons (by repeat (first | exact Fnd.here | apply Fnd.there)))) ?_
    simp only [List.cons_append, List.nil_append]
    refine ow_nil ?_
    refine om_next (by repeat (first | exact Split.nil | apply Split.cons (by repeat (first | exact Fnd.here | apply Fnd.there)))) ?_
    refine om_yg rfl (y_str_eql rfl rfl) (fun a w hh => (want_of rfl rfl rfl hh).trans (wFF (by rw [h0]; rfl))) ?_
    refine om_yg rfl (y_pickF rfl (by rw [h0]; rfl) rfl) (fun a w hh => (want_of rfl rfl rfl hh).trans (wTT (by first | rfl | exact decide_eq_true (by omega)))) ?_
    refine om_y rfl (y_pickT rfl (by first | rfl | exact decide_eq_true (by omega)) rfl) ?_
    refine om_y rfl (y_assign rfl) ?_
    refine om_nil ?_
    refine kw_code (fun _ _ h => h) ?_
    refine cw_retG (fun _ _ h => h) rfl (by simp) (by repeat (first | exact Split.nil | apply Split.cons (by repeat (first | exact Fnd.here | apply Fnd.there))))
  · skip
    refine cw_mix (.soft 0 (.soft 1 (.soft 2 (.soft 3 (.soft 4 (.soft 6 (.hard 5 (.soft 7 (.soft 8 (.soft 9 (.soft 10 (.soft 11 (.soft 12 (.soft 13 (.soft 14 (.soft 15 (.soft 16 (.soft 17 (.soft 18 (.soft 19 .done)))))))))))))))))))) [pts b3 (.cells (opC (kindL l) (idL l) (atL l) (nL l) (dataL l)).toArray 46 (0, 0)), pts b5 (.cells (rpC (kindL l) (idL l) (atL l) (nL l) (dataL l)).toArray 53 (0, 0))] F.fol (by kernel_rfl) (by repeat (first | with_reducible exact NoSlots.bp | with_reducible apply NoSlots.then | with_reducible apply NoSlots.inBlock)) (by repeat (first | exact Split.nil | apply Split.cons (by repeat (first | exact Fnd.here | apply Fnd.there)))) ?_
    refine om_y rfl (y_move rfl) ?_
    refine om_y rfl (y_move rfl) ?_
    refine om_y rfl (y_eql rfl rfl) ?_
    refine om_y rfl (y_move rfl) ?_
    refine om_yg rfl (y_loadAgg F.ag46 rfl (by simp [opC]) (extract_all (by simp [opC]))) (fun a w hh => (want_of rfl rfl rfl hh).trans (wTT (beq_self_eq_true _))) ?_
    refine om_yg rfl (y_loadAgg F.ag53 rfl (by simp [rpC]) (extract_all (by simp [rpC]))) (fun a w hh => (want_of rfl rfl rfl hh).trans (wTT (beq_self_eq_true _))) ?_
    refine om_h rfl ?_
    refine ow_want (fun a w hh => (want_of rfl rfl rfl hh).trans (wTT (beq_self_eq_true _))) ?_
    refine ow_gives rfl F.hb32 rfl (ht) (by repeat (first | exact Split.nil | apply Split.cons (by repeat (first | exact Fnd.here | apply Fnd.there)))) ?_
    simp only [List.cons_append, List.nil_append]
    refine ow_nil ?_
    refine om_next (by repeat (first | exact Split.nil | apply Split.cons (by repeat (first | exact Fnd.here | apply Fnd.there)))) ?_
    refine om_yg rfl (y_struct_eql F.fk53 rfl rfl (eqK_rp _ _ _ _ _)) (fun a w hh => (want_of rfl rfl rfl hh).trans (wTT (beq_self_eq_true _))) ?_
    refine om_y rfl (y_pickT rfl (beq_self_eq_true _) rfl) ?_
    refine om_y rfl (y_move rfl) ?_
    refine om_yg rfl (y_move rfl) (fun a w hh => (want_of rfl rfl rfl hh).trans (wTT (by first | rfl | exact decide_eq_true (by omega)))) ?_
    refine om_yg rfl (y_neq rfl rfl) (fun a w hh => (want_of rfl rfl rfl hh).trans (wTT (by first | rfl | exact decide_eq_true (by omega)))) ?_
    refine om_yg rfl (y_move rfl) (fun a w hh => (want_of rfl rfl rfl hh).trans (wTT (by first | rfl | exact decide_eq_true (by omega)))) ?_
    refine om_skip rfl rfl (fun a w hh => (want_of rfl rfl rfl hh).trans (wFT (by simpa using h0))) ?_
    refine om_skip rfl rfl (fun a w hh => (want_of rfl rfl rfl hh).trans (wFT (by simpa using h0))) ?_
    refine om_skip rfl rfl (fun a w hh => (want_of rfl rfl rfl hh).trans (wFT (by simpa using h0))) ?_
    refine om_skip rfl rfl (fun a w hh => (want_of rfl rfl rfl hh).trans (wFT (by simpa using h0))) ?_
    refine om_yg rfl (y_pickT rfl (by simpa using h0) rfl) (fun a w hh => (want_of rfl rfl rfl hh).trans (wTT (by first | rfl | exact decide_eq_true (by omega)))) ?_
    refine om_y rfl (y_pickT rfl (by first | rfl | exact decide_eq_true (by omega)) rfl) ?_
    refine om_y rfl (y_assign rfl) ?_
    refine om_nil ?_
    refine kw_code (fun _ _ h => h) ?_
    refine cw_retG (fun _ _ h => h) rfl (by simp) (by repeat (first | exact Split.nil | apply Split.cons (by repeat (first | exact Fnd.here | apply Fnd.there))))
end Go.Proofs.Ytofffddcbjkdcaa
