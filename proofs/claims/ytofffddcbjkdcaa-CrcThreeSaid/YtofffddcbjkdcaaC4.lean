/- Part of the proof; no statement of its own: C4. -/
import Derived.Test.YtofffddcbjkdcaaC3
set_option linter.all false
namespace Go.Proofs.Ytofffddcbjkdcaa
open Go.Sl
theorem cutS_le (s : ByteArray) (n : Nat) : (cutS s n).size ≤ n := by
  unfold cutS
  split
  · rw [ByteArray.size_extract]; omega
  · omega
theorem wrap_u32_i64 (x : BitVec 32) : IntKind.i64.wrap (x.toNat : Int) = (x.toNat : Int) := wrap_sm IntKind.i64 _ (by omega) (by have := x.isLt; simp only [IntKind.bits]; omega)
theorem cut_join (s : ByteArray) (i : Nat) (h : i ≤ s.size) : (s.extract 0 i).data.toList ++ (s.extract i s.size).data.toList = s.data.toList := by
  have hs : s.data.toList.length = s.size := by simp
  have e1 : (s.extract 0 i).data.toList = s.data.toList.take i := by simp
  have e2 : (s.extract i s.size).data.toList = s.data.toList.drop i := by
    simp only [ByteArray.data_extract, Array.toList_extract, List.extract_eq_take_drop]
    rw [List.take_of_length_le]
    rw [List.length_drop]; omega
  rw [e1, e2, List.take_append_drop]
theorem crcSums_walk (W : World) (s_ : ByteArray) (hs_ : s_.size ≤ maxLen) (i_ : Int) (_ : (Lit.int .i64 i_).wf = true) :
    Does Try.prog 3 #[.string s_, .int .i64 i_] [whole W] (Gives (.bool true) [whole W]) := by
  have hc := cut_spec s_ 300 hs_
  have hl := cutS_le s_ 300
  generalize cutS s_ 300 = s at hc hl
  obtain ⟨i, hi, his⟩ : ∃ i : Nat, max 0 (min i_ (s.size : Int)) = (i : Int) ∧ i ≤ s.size := ⟨(max 0 (min i_ (s.size : Int))).toNat, by omega, by omega⟩
  have hm : s.size ≤ maxLen := by simp only [maxLen]; omega
  have h1 : (s.extract 0 i).size ≤ maxLen := by rw [ByteArray.size_extract]; omega
  have h2 : (s.extract i s.size).size ≤ maxLen := by rw [ByteArray.size_extract]; omega
  refine does_enter Try.func3 rfl Try.ntmps3 rfl (fun R w0 => ?_)
  simp only [envOf, List.cons_append, List.nil_append]
  refine cw_seq ?_
  refine cw_region ?_
  refine ow_y (y_assign rfl) ?_
  refine ow_nil ?_
  refine kw_code (fun _ _ h => h) ?_
  refine cw_seq ?_
  refine cw_region ?_
  refine ow_y (y_move rfl) ?_
  refine ow_gives rfl F.hb11 rfl (hc) (by repeat (first | exact Split.nil | apply Split.cons (by repeat (first | exact Fnd.here | apply Fnd.there)))) ?_
  simp only [List.cons_append, List.nil_append]
  refine ow_y (y_assign rfl) ?_
  refine ow_nil ?_
  refine kw_code (fun _ _ h => h) ?_
  refine cw_seq ?_
  refine cw_region ?_
  refine ow_y (y_move rfl) ?_
  refine ow_y (y_move rfl) ?_
  refine ow_y (y_len_str F.st9 rfl) ?_
  refine ow_y (y_min rfl rfl) ?_
  refine ow_y (y_max rfl rfl) ?_
  refine ow_y (y_assign rfl) ?_
  refine ow_nil ?_
  rw [hi]
  refine kw_code (fun _ _ h => h) ?_
  refine cw_seq ?_
  refine cw_float (.hard 0 (.soft 1 (.soft 2 (.soft 6 (.hard 3 (.hard 4 (.soft 5 (.hard 7 (.soft 8 (.soft 9 (.soft 10 (.soft 11 (.soft 12 (.soft 13 (.soft 14 (.soft 15 (.soft 16 (.soft 19 (.float 20 (.hard 17 (.hard 18 (.res (.hard 21 (.soft 22 (.soft 23 (.soft 24 .done)))))))))))))))))))))))))) [] F.fol (by kernel_rfl) (by repeat (first | exact NoSlots.bp | apply NoSlots.then | apply NoSlots.inBlock)) (by repeat (first | exact Split.nil | apply Split.cons (by repeat (first | exact Fnd.here | apply Fnd.there)))) ?_
  refine omf_hard rfl (fun hok EE FF => ?_)
  simp only [List.cons_append, List.nil_append]
  refine ow_gives rfl F.hb12 rfl (crcAwake_spec) (by repeat (first | exact Split.nil | apply Split.cons (by repeat (first | exact Fnd.here | apply Fnd.there)))) ?_
  simp only [List.cons_append, List.nil_append]
  refine ow_nil ?_
  refine omf_next (E := EE) (F := FF) (by repeat (first | exact Tl.nil | apply Tl.cons)) (by repeat (first | exact Fnd.here | apply Fnd.there)) (by repeat (first | exact Split.nil | apply Split.cons (by repeat (first | exact Fnd.here | apply Fnd.there)))) (hok.put rfl) ?_
  refine omf_y rfl (y_move rfl) ?_
  refine omf_yg rfl (y_move rfl) (fun a w hh => (want_of rfl rfl rfl hh).trans (wTT (by first | rfl | exact decide_eq_true (by omega)))) ?_
  refine omf_yg rfl (y_move rfl) (fun a w hh => (want_of rfl rfl rfl hh).trans (wTT (by first | rfl | exact decide_eq_true (by omega)))) ?_
  refine omf_hard rfl (fun hok EE FF => ?_)
  simp only [List.cons_append, List.nil_append]
  refine ow_want (fun a w hh => (want_of rfl rfl rfl hh).trans (wTT (by first | rfl | exact decide_eq_true (by omega)))) ?_
  refine (ow_buildSlice F.sl59 F.z9 rfl rfl rfl (by simp [fillL, madeL, Value.cells] <;> rfl) (fun b15 => ?_))
  refine ow_nil ?_
  refine omf_next (E := EE) (F := FF) (by repeat (first | exact Tl.nil | apply Tl.cons)) (by repeat (first | exact Fnd.here | apply Fnd.there)) (by repeat (first | exact Split.nil | apply Split.cons (by repeat (first | exact Fnd.here | apply Fnd.there)))) (hok.put rfl) ?_
  refine omf_hard rfl (fun hok EE FF => ?_)
  simp only [List.cons_append, List.nil_append]
  refine ow_want (fun a w hh => (want_of rfl rfl rfl hh).trans (wTT (by first | rfl | exact decide_eq_true (by omega)))) ?_
  refine ow_gives rfl F.hb13 rfl (sum1_spec b15 1 s hm) (by repeat (first | exact Split.nil | apply Split.cons (by repeat (first | exact Fnd.here | apply Fnd.there)))) ?_
  simp only [List.cons_append, List.nil_append]
  refine ow_nil ?_
  refine omf_next (E := EE) (F := FF) (by repeat (first | exact Tl.nil | apply Tl.cons)) (by repeat (first | exact Fnd.here | apply Fnd.there)) (by repeat (first | exact Split.nil | apply Split.cons (by repeat (first | exact Fnd.here | apply Fnd.there)))) (hok.put rfl) ?_
  refine omf_yg rfl (y_conv F.ts24 F.in3 rfl) (fun a w hh => (want_of rfl rfl rfl hh).trans (wTT (by first | rfl | exact decide_eq_true (by omega)))) ?_
  refine omf_hard rfl (fun hok EE FF => ?_)
  simp only [List.cons_append, List.nil_append]
  refine ow_want (fun a w hh => (want_of rfl rfl rfl hh).trans (wTT (by first | rfl | exact decide_eq_true (by omega)))) ?_
  refine ow_gives rfl F.hb14 rfl (refSum_spec s hm) (by repeat (first | exact Split.nil | apply Split.cons (by repeat (first | exact Fnd.here | apply Fnd.there)))) ?_
  simp only [List.cons_append, List.nil_append]
  refine ow_nil ?_
  refine omf_next (E := EE) (F := FF) (by repeat (first | exact Tl.nil | apply Tl.cons)) (by repeat (first | exact Fnd.here | apply Fnd.there)) (by repeat (first | exact Split.nil | apply Split.cons (by repeat (first | exact Fnd.here | apply Fnd.there)))) (hok.put rfl) ?_
  refine omf_yg rfl (y_eql rfl rfl) (fun a w hh => (want_of rfl rfl rfl hh).trans (wTT (by first | rfl | exact decide_eq_true (by omega)))) ?_
  refine omf_y rfl (y_pickT rfl (by first | rfl | exact decide_eq_true (by omega)) rfl) ?_
  refine omf_y rfl (y_move rfl) ?_
  refine omf_yg rfl (y_move rfl) (fun a w hh => (want_of rfl rfl rfl hh).trans (wTT (by rw [wrap_u32_i64]; simp))) ?_
  refine omf_yg rfl (y_move rfl) (fun a w hh => (want_of rfl rfl rfl hh).trans (wTT (by rw [wrap_u32_i64]; simp))) ?_
  refine omf_yg rfl (y_cutH F.st9 rfl rfl (by omega)) (fun a w hh => (want_of rfl rfl rfl hh).trans (wTT (by rw [wrap_u32_i64]; simp))) ?_
  refine omf_yg rfl (y_move rfl) (fun a w hh => (want_of rfl rfl rfl hh).trans (wTT (by rw [wrap_u32_i64]; simp))) ?_
  refine omf_yg rfl (y_move rfl) (fun a w hh => (want_of rfl rfl rfl hh).trans (wTT (by rw [wrap_u32_i64]; simp))) ?_
  refine omf_yg rfl (y_cutL F.st9 rfl rfl (by omega)) (fun a w hh => (want_of rfl rfl rfl hh).trans (wTT (by rw [wrap_u32_i64]; simp))) ?_
  refine omf_yg rfl (y_move rfl) (fun a w hh => (want_of rfl rfl rfl hh).trans (wTT (by rw [wrap_u32_i64]; simp))) ?_
  refine omf_fbuildSlice (e0 := [(22, _), (31, _)]) rfl (by repeat (first | exact Sub.nil | refine Sub.cons rfl ?_)) (fun a w hh => (want_of rfl rfl rfl hh).trans (wTT (by rw [wrap_u32_i64]; simp))) F.sl59 F.z9 rfl rfl rfl (by simp [fillL, madeL, Value.cells] <;> rfl) rfl ?_
  refine omf_hard rfl (fun hok EE FF => ?_)
  simp only [List.cons_append, List.nil_append]
  refine ow_want (fun a w hh => (want_of rfl rfl rfl hh).trans (wTT (by rw [wrap_u32_i64]; simp))) ?_
  refine (ow_buildSlice F.sl59 F.z9 rfl rfl rfl (by simp [fillL, madeL, Value.cells] <;> rfl) (fun b29 => ?_))
  refine ow_nil ?_
  refine omf_next (E := EE) (F := FF) (by repeat (first | exact Tl.nil | apply Tl.cons)) (by repeat (first | exact Fnd.here | apply Fnd.there)) (by repeat (first | exact Split.nil | apply Split.cons (by repeat (first | exact Fnd.here | apply Fnd.there)))) (hok.put rfl) ?_
  refine omf_hard rfl (fun hok EE FF => ?_)
  simp only [List.cons_append, List.nil_append]
  refine ow_want (fun a w hh => (want_of rfl rfl rfl hh).trans (wTT (by rw [wrap_u32_i64]; simp))) ?_
  refine ow_gives rfl F.hb13 rfl (sum2_spec b29 2 _ _ h1 h2) (by repeat (first | exact Split.nil | apply Split.cons (by repeat (first | exact Fnd.here | apply Fnd.there)))) ?_
  simp only [List.cons_append, List.nil_append]
  refine ow_nil ?_
  refine omf_next (E := EE) (F := FF) (by repeat (first | exact Tl.nil | apply Tl.cons)) (by repeat (first | exact Fnd.here | apply Fnd.there)) (by repeat (first | exact Split.nil | apply Split.cons (by repeat (first | exact Fnd.here | apply Fnd.there)))) (hok.put rfl) ?_
  refine omf_res (fun b32 => ?_)
  dsimp only
  refine omf_hard rfl (fun hok EE FF => ?_)
  simp only [List.cons_append, List.nil_append]
  refine ow_want (fun a w hh => (want_of rfl rfl rfl hh).trans (wTT (by rw [wrap_u32_i64]; simp))) ?_
  refine ow_gives rfl F.hb13 rfl (sum1_spec b32 1 s hm) (by repeat (first | exact Split.nil | apply Split.cons (by repeat (first | exact Fnd.here | apply Fnd.there)))) ?_
  simp only [List.cons_append, List.nil_append]
  refine ow_nil ?_
  refine omf_next (E := EE) (F := FF) (by repeat (first | exact Tl.nil | apply Tl.cons)) (by repeat (first | exact Fnd.here | apply Fnd.there)) (by repeat (first | exact Split.nil | apply Split.cons (by repeat (first | exact Fnd.here | apply Fnd.there)))) (hok.put rfl) ?_
  refine omf_yg rfl (y_eql rfl rfl) (fun a w hh => (want_of rfl rfl rfl hh).trans (wTT (by rw [wrap_u32_i64]; simp))) ?_
  refine omf_y rfl (y_pickT rfl (by rw [wrap_u32_i64]; simp) rfl) ?_
  refine omf_y rfl (y_assign rfl) ?_
  refine omf_nil ?_
  refine kw_code (fun _ _ h => h) ?_
  refine cw_retG (fun _ _ h => h) rfl (by rw [cut_join s i his]; simp) (by repeat (first | exact Split.nil | apply Split.cons (by repeat (first | exact Fnd.here | apply Fnd.there))))
end Go.Proofs.Ytofffddcbjkdcaa
