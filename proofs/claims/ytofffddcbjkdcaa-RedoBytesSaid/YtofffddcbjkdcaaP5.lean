/- Part of the proof; no statement of its own: P5. -/
import Derived.Test.YtofffddcbjkdcaaP4
set_option linter.all false
namespace Go.Proofs.Ytofffddcbjkdcaa
open Go.Sl
theorem bs_cut (l : List UInt8) (i j : Nat) : (bs l).extract i j = bs ((l.take j).drop i) := by
  refine ba_ext ?_
  rw [bs_list]
  simp only [ByteArray.data_extract, Array.toList_extract, List.extract_eq_take_drop, bs_list]
  rw [List.drop_take]
theorem be_bound4 (l : List UInt8) (h : l.length ≤ 4) : be l < 4294967296 := Nat.lt_of_lt_of_le (be_lt l) (Nat.pow_le_pow_right (n := 256) (i := l.length) (j := 4) (by decide) h)
theorem number_spec (l : List UInt8) (h4 : l.length ≤ 4) : Does Try.prog 45 #[.string (bs l)] [] (Gives (.int .i64 (be l : Nat)) []) := by
  have hsz := bs_size l
  refine does_enter Try.func45 rfl Try.ntmps45 rfl (fun R w0 => ?_)
  simp only [envOf, List.cons_append, List.nil_append]
  refine cw_seq ?_
  refine cw_region ?_
  refine ow_y (y_assign rfl) ?_
  refine ow_nil ?_
  refine kw_code (fun _ _ h => h) ?_
  refine cw_seq ?_
  refine cw_region ?_
  refine ow_y (y_assign rfl) ?_
  refine ow_nil ?_
  refine kw_code (fun _ _ h => h) ?_
  refine cw_seq ?_
  refine cw_seq ?_
  refine cw_region ?_
  refine ow_y (y_assign rfl) ?_
  refine ow_nil ?_
  refine kw_code (fun _ _ h => h) ?_
  refine cw_block ?_
  refine cw_loop (X := {i : Nat // i ≤ l.length}) (fun x => [(0, .string (bs l)), (3, .int .i64 (be (l.take x.1) : Nat)), (4, .int .i64 x.1)]) (fun x => [R]) (fun x => l.length - x.1) ⟨0, by omega⟩ (by repeat (first | exact Sub.nil | refine Sub.cons rfl ?_)) (by repeat (first | exact Split.nil | apply Split.cons (by repeat (first | exact Fnd.here | apply Fnd.there)))) ?_
  rintro ⟨i, hi⟩ m0 hm0
  try simp only at hm0
  try dsimp only
  have hbb := be_bound4 (l.take i) (by simp; omega)
  refine cw_seq ?_
  refine cw_seq ?_
  refine cw_region ?_
  refine ow_y (y_move rfl) ?_
  refine ow_y (y_move rfl) ?_
  refine ow_y (y_len_str F.st9 rfl) ?_
  refine ow_y (y_lss rfl rfl) ?_
  refine ow_nil ?_
  refine kw_code (fun _ _ h => h) ?_
  refine cw_if rfl (fun hb8 => ?_) (fun hb8 => ?_)
  · skip
    have hil : i < l.length := by have := of_decide_eq_true hb8; omega
    have hcl := (l[i]).toNat_lt
    refine cw_skip ?_
    refine kw_code (fun _ _ h => h) ?_
    refine cw_seq ?_
    refine cw_block ?_
    refine cw_region ?_
    refine ow_y (y_move rfl) ?_
    refine ow_y (y_mulI rfl rfl (by omega)) ?_
    refine ow_y (y_move rfl) ?_
    refine ow_y (y_move rfl) ?_
    refine ow_y (y_byte F.st9 rfl rfl (by omega) (u := l[i]) (by simp [hil])) ?_
    refine ow_y (y_conv F.ts5 F.in3 rfl) ?_
    rw [show IntKind.i64.wrap ((l[i]).toNat : Int) = ((l[i]).toNat : Int) from wrap_sm _ _ (by omega) (by simp only [IntKind.bits]; omega)]
    refine ow_y (y_addI rfl rfl (by omega)) ?_
    refine ow_y (y_assign rfl) ?_
    refine ow_nil ?_
    rw [show (256 : Int) * (be (l.take i) : Nat) + ((l[i]).toNat : Int) = ((be (l.take (i + 1)) : Nat) : Int) from by rw [be_take l i hil]; omega]
    refine kw_code (fun _ _ h => h) ?_
    refine cw_region ?_
    refine ow_y (y_move rfl) ?_
    refine ow_y (y_addI rfl rfl (by omega)) ?_
    refine ow_y (y_assign rfl) ?_
    refine ow_nil ?_
    refine kw_rnd (fun _ _ h => h) (⟨i + 1, hil⟩) (by first | omega | (simp only; omega)) (by repeat (first | exact Sub.nil | refine Sub.cons rfl ?_)) (by repeat (first | exact Split.nil | apply Split.cons (by repeat (first | exact Fnd.here | apply Fnd.there))))
  · skip
    have hil : i = l.length := by have := of_decide_eq_false hb8; omega
    rw [List.take_of_length_le (by omega)]
    refine cw_exit ?_
    refine kw_code (fun _ _ h => h) ?_
    refine cw_seq ?_
    refine cw_region ?_
    refine ow_y (y_move rfl) ?_
    refine ow_y (y_assign rfl) ?_
    refine ow_nil ?_
    refine kw_code (fun _ _ h => h) ?_
    refine cw_retG (fun _ _ h => h) rfl rfl (by repeat (first | exact Split.nil | apply Split.cons (by repeat (first | exact Fnd.here | apply Fnd.there))))
def rpC (kind id at_ n : Nat) (data : ByteArray) : List Value := [.int .i64 kind, .int .i64 id, .int .i64 at_, .int .i64 n, .string data]
def refC (l : List UInt8) : List Value := if errL l = 0 then rpC (be (l.take 1)) (be ((l.drop 1).take 4)) (be ((l.drop 5).take 2)) (be ((l.drop 7).take 2)) (bs (l.drop 9)) else rpC 0 0 0 0 ByteArray.empty
theorem refParse_spec (l : List UInt8) (hs : l.length ≤ 1000000) : Does Try.prog 33 #[.string (bs l)] [] (Gives (.tuple #[.agg (refC l).toArray, .int .i64 (errL l)]) []) := by
  have hsz := bs_size l
  by_cases h9 : l.length < 9
  · have e : errL l = 2 := by unfold errL; rw [if_pos h9]
    unfold refC; rw [e, if_neg (by decide)]
    refine does_enter Try.func33 rfl Try.ntmps33 rfl (fun R w0 => ?_)
    simp only [envOf, List.cons_append, List.nil_append]
    refine cw_seq ?_
    refine cw_region ?_
    refine (ow_alloc F.z53 (fun b2 => ?_))
    refine ow_y (y_assign rfl) ?_
    refine ow_nil ?_
    refine kw_code (fun _ _ h => h) ?_
    refine cw_seq ?_
    refine cw_seq ?_
    refine cw_region ?_
    refine ow_y (y_move rfl) ?_
    refine ow_y (y_len_str F.st9 rfl) ?_
    refine ow_y (y_lss rfl rfl) ?_
    refine ow_nil ?_
    refine kw_code (fun _ _ h => h) ?_
    refine cw_true rfl (by first | rfl | exact decide_eq_true (by omega)) ?_
    refine cw_seq ?_
    refine cw_region ?_
    refine ow_y (y_build F.pl53 rfl (by simp [fillL, nth, Value.cells] <;> rfl)) ?_
    refine (ow_storeAgg F.sz53 rfl rfl (by first | rfl | simp) (by simp [Value.oneCell']) (by simp [Value.cells]) (by simp [splice, Value.cells] <;> rfl) ?_)
    refine ow_y (y_assign rfl) ?_
    refine ow_nil ?_
    refine kw_code (fun _ _ h => h) ?_
    refine cw_retGC (fun _ _ h => h) (RV.agg F.ag53 rfl (by simp) (by rfl) (RV.tmp rfl RV.nil)) rfl (by repeat (first | exact Split.nil | apply Split.cons (by repeat (first | exact Fnd.here | apply Fnd.there))))
  · have hk : be (l.take 1) = (l[0]).toNat := by
      have := be_take l 0 (by omega)
      simpa [be] using this
    have c0 := (l[0]).toNat_lt
    have w0' : IntKind.i64.wrap ((l[0]).toNat : Int) = ((l[0]).toNat : Int) := wrap_sm _ _ (by omega) (by simp only [IntKind.bits]; omega)
    have w0k : IntKind.i64.wrap ((be (l.take 1) : Nat) : Int) = ((be (l.take 1) : Nat) : Int) := by rw [hk]; exact w0'
    have n1 := number_spec ((l.take 5).drop 1) (by simp; omega)
    rw [← bs_cut, List.drop_take] at n1
    have n2 := number_spec ((l.take 7).drop 5) (by simp; omega)
    rw [← bs_cut, List.drop_take] at n2
    have n3 := number_spec ((l.take 9).drop 7) (by simp; omega)
    rw [← bs_cut, List.drop_take] at n3
    by_cases h1 : (l[0]).toNat < 1
    · have e : errL l = 15 := by unfold errL; rw [if_neg h9, if_neg (by omega)]
      unfold refC; rw [e, if_neg (by decide)]
      refine does_enter Try.func33 rfl Try.ntmps33 rfl (fun R w0 => ?_)
      simp only [envOf, List.cons_append, List.nil_append]
      refine cw_seq ?_
      refine cw_region ?_
      refine (ow_alloc F.z53 (fun b2 => ?_))
      refine ow_y (y_assign rfl) ?_
      refine ow_nil ?_
      refine kw_code (fun _ _ h => h) ?_
      refine cw_seq ?_
      refine cw_seq ?_
      refine cw_region ?_
      refine ow_y (y_move rfl) ?_
      refine ow_y (y_len_str F.st9 rfl) ?_
      refine ow_y (y_lss rfl rfl) ?_
      refine ow_nil ?_
      refine kw_code (fun _ _ h => h) ?_
      refine cw_false rfl (by first | rfl | exact decide_eq_false (by omega)) ?_
      refine cw_skip ?_
      refine kw_code (fun _ _ h => h) ?_
      refine cw_seq ?_
      refine cw_seq ?_
      refine cw_region ?_
      refine ow_y (y_move rfl) ?_
      refine ow_y (y_byte F.st9 rfl rfl (by omega) (u := l[0]) (by simp)) ?_
      refine ow_y (y_lss rfl rfl) ?_
      refine ow_y (y_move rfl) ?_
      refine ow_skip rfl (fun a w hh => (want_of rfl rfl rfl hh).trans (wFT (by first | rfl | exact decide_eq_true (by omega)))) ?_
      refine ow_skip rfl (fun a w hh => (want_of rfl rfl rfl hh).trans (wFT (by first | rfl | exact decide_eq_true (by omega)))) ?_
      refine ow_skip rfl (fun a w hh => (want_of rfl rfl rfl hh).trans (wFT (by first | rfl | exact decide_eq_true (by omega)))) ?_
      refine ow_y (y_pickT rfl (by first | rfl | exact decide_eq_true (by omega)) rfl) ?_
      refine ow_nil ?_
      refine kw_code (fun _ _ h => h) ?_
      refine cw_true rfl (by first | rfl | exact decide_eq_true (by omega)) ?_
      refine cw_seq ?_
      refine cw_region ?_
      refine ow_y (y_build F.pl53 rfl (by simp [fillL, nth, Value.cells] <;> rfl)) ?_
      refine (ow_storeAgg F.sz53 rfl rfl (by first | rfl | simp) (by simp [Value.oneCell']) (by simp [Value.cells]) (by simp [splice, Value.cells] <;> rfl) ?_)
      refine ow_y (y_assign rfl) ?_
      refine ow_nil ?_
      refine kw_code (fun _ _ h => h) ?_
      refine cw_retGC (fun _ _ h => h) (RV.agg F.ag53 rfl (by simp) (by rfl) (RV.tmp rfl RV.nil)) rfl (by repeat (first | exact Split.nil | apply Split.cons (by repeat (first | exact Fnd.here | apply Fnd.there))))
    · by_cases h7 : (l[0]).toNat > 7
      · have e : errL l = 15 := by unfold errL; rw [if_neg h9, if_neg (by omega)]
        unfold refC; rw [e, if_neg (by decide)]
        refine does_enter Try.func33 rfl Try.ntmps33 rfl (fun R w0 => ?_)
        simp only [envOf, List.cons_append, List.nil_append]
        refine cw_seq ?_
        refine cw_region ?_
        refine (ow_alloc F.z53 (fun b2 => ?_))
        refine ow_y (y_assign rfl) ?_
        refine ow_nil ?_
        refine kw_code (fun _ _ h => h) ?_
        refine cw_seq ?_
        refine cw_seq ?_
        refine cw_region ?_
        refine ow_y (y_move rfl) ?_
        refine ow_y (y_len_str F.st9 rfl) ?_
        refine ow_y (y_lss rfl rfl) ?_
        refine ow_nil ?_
        refine kw_code (fun _ _ h => h) ?_
        refine cw_false rfl (by first | rfl | exact decide_eq_false (by omega)) ?_
        refine cw_skip ?_
        refine kw_code (fun _ _ h => h) ?_
        refine cw_seq ?_
        refine cw_seq ?_
        refine cw_region ?_
        refine ow_y (y_move rfl) ?_
        refine ow_y (y_byte F.st9 rfl rfl (by omega) (u := l[0]) (by simp)) ?_
        refine ow_y (y_lss rfl rfl) ?_
        refine ow_y (y_move rfl) ?_
        refine ow_yg (y_move rfl) (fun a w hh => (want_of rfl rfl rfl hh).trans (wFF (by first | rfl | exact decide_eq_false (by omega)))) ?_
        refine ow_yg (y_byte F.st9 rfl rfl (by omega) (u := l[0]) (by simp)) (fun a w hh => (want_of rfl rfl rfl hh).trans (wFF (by first | rfl | exact decide_eq_false (by omega)))) ?_
        refine ow_yg (y_gtr rfl rfl) (fun a w hh => (want_of rfl rfl rfl hh).trans (wFF (by first | rfl | exact decide_eq_false (by omega)))) ?_
        refine ow_y (y_pickF rfl (by first | rfl | exact decide_eq_false (by omega)) rfl) ?_
        refine ow_nil ?_
        refine kw_code (fun _ _ h => h) ?_
        refine cw_true rfl (by first | rfl | exact decide_eq_true (by omega)) ?_
        refine cw_seq ?_
        refine cw_region ?_
        refine ow_y (y_build F.pl53 rfl (by simp [fillL, nth, Value.cells] <;> rfl)) ?_
        refine (ow_storeAgg F.sz53 rfl rfl (by first | rfl | simp) (by simp [Value.oneCell']) (by simp [Value.cells]) (by simp [splice, Value.cells] <;> rfl) ?_)
        refine ow_y (y_assign rfl) ?_
        refine ow_nil ?_
        refine kw_code (fun _ _ h => h) ?_
        refine cw_retGC (fun _ _ h => h) (RV.agg F.ag53 rfl (by simp) (by rfl) (RV.tmp rfl RV.nil)) rfl (by repeat (first | exact Split.nil | apply Split.cons (by repeat (first | exact Fnd.here | apply Fnd.there))))
      · have e : errL l = 0 := by unfold errL; rw [if_neg h9, if_pos (by omega)]
        unfold refC; rw [e, if_pos rfl]
        refine does_enter Try.func33 rfl Try.ntmps33 rfl (fun R w0 => ?_)
        simp only [envOf, List.cons_append, List.nil_append]
        refine cw_seq ?_
        refine cw_region ?_
        refine (ow_alloc F.z53 (fun b2 => ?_))
        refine ow_y (y_assign rfl) ?_
        refine ow_nil ?_
        refine kw_code (fun _ _ h => h) ?_
        refine cw_seq ?_
        refine cw_seq ?_
        refine cw_region ?_
        refine ow_y (y_move rfl) ?_
        refine ow_y (y_len_str F.st9 rfl) ?_
        refine ow_y (y_lss rfl rfl) ?_
        refine ow_nil ?_
        refine kw_code (fun _ _ h => h) ?_
        refine cw_false rfl (by first | rfl | exact decide_eq_false (by omega)) ?_
        refine cw_skip ?_
        refine kw_code (fun _ _ h => h) ?_
        refine cw_seq ?_
        refine cw_seq ?_
        refine cw_region ?_
        refine ow_y (y_move rfl) ?_
        refine ow_y (y_byte F.st9 rfl rfl (by omega) (u := l[0]) (by simp)) ?_
        refine ow_y (y_lss rfl rfl) ?_
        refine ow_y (y_move rfl) ?_
        refine ow_yg (y_move rfl) (fun a w hh => (want_of rfl rfl rfl hh).trans (wFF (by first | rfl | exact decide_eq_false (by omega)))) ?_
        refine ow_yg (y_byte F.st9 rfl rfl (by omega) (u := l[0]) (by simp)) (fun a w hh => (want_of rfl rfl rfl hh).trans (wFF (by first | rfl | exact decide_eq_false (by omega)))) ?_
        refine ow_yg (y_gtr rfl rfl) (fun a w hh => (want_of rfl rfl rfl hh).trans (wFF (by first | rfl | exact decide_eq_false (by omega)))) ?_
        refine ow_y (y_pickF rfl (by first | rfl | exact decide_eq_false (by omega)) rfl) ?_
        refine ow_nil ?_
        refine kw_code (fun _ _ h => h) ?_
        refine cw_false rfl (by first | rfl | exact decide_eq_false (by omega)) ?_
        refine cw_skip ?_
        refine kw_code (fun _ _ h => h) ?_
        refine cw_seq ?_
        refine cw_mix (.soft 0 (.soft 1 (.soft 2 (.soft 3 (.soft 4 (.soft 6 (.soft 7 (.soft 9 (.soft 10 (.soft 12 (.soft 13 (.hard 5 (.hard 8 (.hard 11 (.soft 14 (.hard 15 (.soft 16 .done))))))))))))))))) [] F.fol (by kernel_rfl) (by repeat (first | with_reducible exact NoSlots.bp | with_reducible apply NoSlots.then | with_reducible apply NoSlots.inBlock)) (by repeat (first | exact Split.nil | apply Split.cons (by repeat (first | exact Fnd.here | apply Fnd.there)))) ?_
        refine om_y rfl (y_move rfl) ?_
        refine om_y rfl (y_byte F.st9 rfl rfl (by omega) (u := l[0]) (by simp)) ?_
        refine om_y rfl (y_conv F.ts5 F.in3 rfl) ?_
        refine om_y rfl (y_move rfl) ?_
        refine om_y rfl (y_cutLH F.st9 rfl rfl rfl (by omega)) ?_
        refine om_y rfl (y_move rfl) ?_
        refine om_y rfl (y_cutLH F.st9 rfl rfl rfl (by omega)) ?_
        refine om_y rfl (y_move rfl) ?_
        refine om_y rfl (y_cutLH F.st9 rfl rfl rfl (by omega)) ?_
        refine om_y rfl (y_move rfl) ?_
        refine om_y rfl (y_cutL F.st9 rfl rfl (by omega)) ?_
        refine om_h rfl ?_
        refine ow_gives rfl F.hb45 rfl (n1) (by repeat (first | exact Split.nil | apply Split.cons (by repeat (first | exact Fnd.here | apply Fnd.there)))) ?_
        simp only [List.cons_append, List.nil_append]
        refine ow_nil ?_
        refine om_next (by repeat (first | exact Split.nil | apply Split.cons (by repeat (first | exact Fnd.here | apply Fnd.there)))) ?_
        refine om_h rfl ?_
        refine ow_gives rfl F.hb45 rfl (n2) (by repeat (first | exact Split.nil | apply Split.cons (by repeat (first | exact Fnd.here | apply Fnd.there)))) ?_
        simp only [List.cons_append, List.nil_append]
        refine ow_nil ?_
        refine om_next (by repeat (first | exact Split.nil | apply Split.cons (by repeat (first | exact Fnd.here | apply Fnd.there)))) ?_
        refine om_h rfl ?_
        refine ow_gives rfl F.hb45 rfl (n3) (by repeat (first | exact Split.nil | apply Split.cons (by repeat (first | exact Fnd.here | apply Fnd.there)))) ?_
        simp only [List.cons_append, List.nil_append]
        refine ow_nil ?_
        refine om_next (by repeat (first | exact Split.nil | apply Split.cons (by repeat (first | exact Fnd.here | apply Fnd.there)))) ?_
        simp only [Int.reduceToNat, bs_drop, ← hk, w0k]
        refine om_y rfl (y_build F.pl53 rfl (by simp [fillL, nth, Value.cells] <;> rfl)) ?_
        refine om_h rfl ?_
        refine (ow_storeAgg F.sz53 rfl rfl (by first | rfl | simp) (by simp [Value.oneCell']) (by simp [Value.cells]) (by simp [splice, Value.cells] <;> rfl) ?_)
        refine ow_nil ?_
        refine om_next (by repeat (first | exact Split.nil | apply Split.cons (by repeat (first | exact Fnd.here | apply Fnd.there)))) ?_
        refine om_y rfl (y_assign rfl) ?_
        refine om_nil ?_
        rw [← List.drop_one]
        refine kw_code (fun _ _ h => h) ?_
        refine cw_retGC (fun _ _ h => h) (RV.agg F.ag53 rfl (by simp) (by rfl) (RV.tmp rfl RV.nil)) rfl (by repeat (first | exact Split.nil | apply Split.cons (by repeat (first | exact Fnd.here | apply Fnd.there))))
end Go.Proofs.Ytofffddcbjkdcaa
