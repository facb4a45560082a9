/- Part of the proof; no statement of its own: S8. -/
import Derived.Test.YtoolmpfkbaffcaaDoorFacts
import Derived.Test.YtoolmpfkbaffcaaDoorS7
import Derived.Test.YtoolmpfkbaffcaaDoorSc3
set_option linter.all false
set_option maxRecDepth 4000
set_option maxHeartbeats 4000000
namespace Go.Proofs.YtoolmpfkbaffcaaDoor
open Go.Sl Go.Sc
/-- a line that is being read -/
def lnC (verb : ByteArray) (v : Value) (word : ByteArray) : List Value := [.string verb, v, .string word]
def pln (b : Nat) (verb : ByteArray) (v : Value) (word : ByteArray) : Asrt := pts b (.cells (lnC verb v word).toArray 26 (0, 0))
def intL (n : Int) : Value := .int .i64 n
theorem oneW_spec (b : Nat) (verb word s : ByteArray) (v : Value) (hv : v.oneCell' = true) (hs : s.size ≤ 1000000) : Does Tryd.prog 22 #[.pointer (some ⟨b, 0, none⟩), .int .u8 119, .string s] [pln b verb v word]
    (Gives (.int .i64 (if wordOk s then 0 else 1)) [pln b verb v (if wordOk s then s else word)]) := by
  cases hw : wordOk s
  · skip
    refine does_enter Tryd.func22 rfl Tryd.ntmps22 rfl (fun R w0 => ?_)
    simp only [envOf, List.cons_append, List.nil_append, pln, lnC]
    refine cw_seq ?_
    refine cw_region ?_
    refine ow_y (y_assign rfl) ?_
    refine ow_nil ?_
    refine kw_code (fun _ _ h => h) ?_
    refine cw_seq ?_
    refine cw_seq ?_
    refine cw_region ?_
    refine ow_y (y_move rfl) ?_
    refine ow_y (y_eql rfl rfl) ?_
    refine ow_nil ?_
    refine kw_code (fun _ _ h => h) ?_
    refine cw_true rfl rfl ?_
    refine cw_seq ?_
    refine cw_seq ?_
    refine cw_region ?_
    refine ow_y (y_move rfl) ?_
    refine ow_gives rfl F.hb14 rfl ((hw ▸ word_spec s (by simp only [maxLen]; omega))) (by repeat (first | exact Split.nil | apply Split.cons (by repeat (first | exact Fnd.here | apply Fnd.there)))) ?_
    simp only [List.cons_append, List.nil_append]
    refine ow_y (y_not rfl) ?_
    refine ow_nil ?_
    refine kw_code (fun _ _ h => h) ?_
    refine cw_true rfl rfl ?_
    refine cw_seq ?_
    refine cw_region ?_
    refine ow_y (y_assign rfl) ?_
    refine ow_nil ?_
    refine kw_code (fun _ _ h => h) ?_
    refine cw_retG (fun _ _ h => h) rfl rfl (by repeat (first | exact Split.nil | apply Split.cons (by repeat (first | exact Fnd.here | apply Fnd.there))))
  · skip
    refine does_enter Tryd.func22 rfl Tryd.ntmps22 rfl (fun R w0 => ?_)
    simp only [envOf, List.cons_append, List.nil_append, pln, lnC]
    refine cw_seq ?_
    refine cw_region ?_
    refine ow_y (y_assign rfl) ?_
    refine ow_nil ?_
    refine kw_code (fun _ _ h => h) ?_
    refine cw_seq ?_
    refine cw_seq ?_
    refine cw_region ?_
    refine ow_y (y_move rfl) ?_
    refine ow_y (y_eql rfl rfl) ?_
    refine ow_nil ?_
    refine kw_code (fun _ _ h => h) ?_
    refine cw_true rfl rfl ?_
    refine cw_seq ?_
    refine cw_seq ?_
    refine cw_region ?_
    refine ow_y (y_move rfl) ?_
    refine ow_gives rfl F.hb14 rfl ((hw ▸ word_spec s (by simp only [maxLen]; omega))) (by repeat (first | exact Split.nil | apply Split.cons (by repeat (first | exact Fnd.here | apply Fnd.there)))) ?_
    simp only [List.cons_append, List.nil_append]
    refine ow_y (y_not rfl) ?_
    refine ow_nil ?_
    refine kw_code (fun _ _ h => h) ?_
    refine cw_false rfl rfl ?_
    refine cw_skip ?_
    refine kw_code (fun _ _ h => h) ?_
    refine cw_seq ?_
    refine cw_region ?_
    refine ow_y (y_move rfl) ?_
    refine ow_y (y_move rfl) ?_
    refine ow_y (y_nil rfl) ?_
    refine ow_y (y_fld F.fld26_2 rfl) ?_
    refine (ow_store F.sz9 rfl rfl (by first | rfl | assumption) (by rfl) (by (try simp only [List.set_cons_zero, List.set_cons_succ, Nat.reduceAdd, Nat.reduceMul, Int.reduceToNat, Nat.zero_add, Nat.add_zero]); rfl) ?_)
    refine ow_nil ?_
    refine kw_code (fun _ _ h => h) ?_
    refine cw_seq ?_
    refine cw_region ?_
    refine ow_y (y_assign rfl) ?_
    refine ow_nil ?_
    refine kw_code (fun _ _ h => h) ?_
    refine cw_retG (fun _ _ h => h) rfl rfl (by repeat (first | exact Split.nil | apply Split.cons (by repeat (first | exact Fnd.here | apply Fnd.there))))
theorem oneN_spec {W : World} (hW : ShW W) (b n : Nat) (xs : List Value) (verb word s : ByteArray) (v : Value) (hn : n ≤ 1000000) (hs : s.size ≤ 1000000) : Does Tryd.prog 22 #[.pointer (some ⟨b, 0, none⟩), .int .u8 110, .string s] [pln b verb v word, rowA 3 1 v n xs, whole W]
    (GivesE (fun v' : Value => v'.oneCell' = true) (fun _ => .int .i64 (if (lnNum s).isSome then 0 else 1)) fun v' => [pln b verb v' word, rowA 3 1 v' (n + 1) (xs ++ [intL ((lnNum s).getD 0)]), whole W]) := by
  have hnum := number_spec hW s hs
  unfold numV at hnum
  cases hl : lnNum s with
  | none =>
    rw [hl] at hnum
    refine does_enter Tryd.func22 rfl Tryd.ntmps22 rfl (fun R w0 => ?_)
    simp only [envOf, List.cons_append, List.nil_append, pln, lnC]
    refine cw_seq ?_
    refine cw_region ?_
    refine ow_y (y_assign rfl) ?_
    refine ow_nil ?_
    refine kw_code (fun _ _ h => h) ?_
    refine cw_seq ?_
    refine cw_seq ?_
    refine cw_region ?_
    refine ow_y (y_move rfl) ?_
    refine ow_y (y_eql rfl rfl) ?_
    refine ow_nil ?_
    refine kw_code (fun _ _ h => h) ?_
    refine cw_false rfl rfl ?_
    refine cw_skip ?_
    refine kw_code (fun _ _ h => h) ?_
    refine cw_seq ?_
    refine cw_region ?_
    refine ow_y (y_move rfl) ?_
    refine ow_gives rfl F.hb12 rfl (hnum) (by repeat (first | exact Split.nil | apply Split.cons (by repeat (first | exact Fnd.here | apply Fnd.there)))) ?_
    simp only [List.cons_append, List.nil_append]
    refine ow_y (y_move rfl) ?_
    refine ow_y (y_ext rfl rfl) ?_
    refine ow_y (y_ext rfl rfl) ?_
    refine ow_y (y_assign rfl) ?_
    refine ow_y (y_assign rfl) ?_
    refine ow_nil ?_
    refine kw_code (fun _ _ h => h) ?_
    refine cw_seq ?_
    refine cw_region ?_
    refine ow_y (y_move rfl) ?_
    refine ow_y (y_move rfl) ?_
    refine ow_y (y_nil rfl) ?_
    refine ow_y (y_fld F.fld26_1 rfl) ?_
    refine ow_y (y_load F.sc24 rfl (by rfl)) ?_
    refine ow_y (y_move rfl) ?_
    refine (ow_buildSlice F.sl24 F.z3 rfl rfl rfl (by simp [fillL, madeL, Value.cells] <;> rfl) (fun b29 => ?_))
    refine (ow_append F.sl24 F.tb3 F.z3 rfl rfl rfl (by repeat (first | exact Fnd.here | apply Fnd.there)) (src_blk F.sl24 (by simp; rfl) (by simp) (by simp [Value.oneCell'])) (by simp only [maxLen]; omega) (by omega) (fun v30 hv30 => ?_))
    refine ow_y (y_nil rfl) ?_
    refine ow_y (y_fld F.fld26_1 rfl) ?_
    refine (ow_store F.sz24 rfl rfl (by first | rfl | assumption) (by rfl) (by (try simp only [List.set_cons_zero, List.set_cons_succ, Nat.reduceAdd, Nat.reduceMul, Int.reduceToNat, Nat.zero_add, Nat.add_zero]); rfl) ?_)
    refine ow_nil ?_
    refine kw_code (fun _ _ h => h) ?_
    refine cw_seq ?_
    refine cw_region ?_
    refine ow_y (y_move rfl) ?_
    refine ow_y (y_assign rfl) ?_
    refine ow_nil ?_
    refine kw_code (fun _ _ h => h) ?_
    refine cw_retE v30 hv30 (fun _ _ h => h) rfl rfl (by repeat (first | exact Split.nil | apply Split.cons (by repeat (first | exact Fnd.here | apply Fnd.there))))
  | some z =>
    rw [hl] at hnum
    refine does_enter Tryd.func22 rfl Tryd.ntmps22 rfl (fun R w0 => ?_)
    simp only [envOf, List.cons_append, List.nil_append, pln, lnC]
    refine cw_seq ?_
    refine cw_region ?_
    refine ow_y (y_assign rfl) ?_
    refine ow_nil ?_
    refine kw_code (fun _ _ h => h) ?_
    refine cw_seq ?_
    refine cw_seq ?_
    refine cw_region ?_
    refine ow_y (y_move rfl) ?_
    refine ow_y (y_eql rfl rfl) ?_
    refine ow_nil ?_
    refine kw_code (fun _ _ h => h) ?_
    refine cw_false rfl rfl ?_
    refine cw_skip ?_
    refine kw_code (fun _ _ h => h) ?_
    refine cw_seq ?_
    refine cw_region ?_
    refine ow_y (y_move rfl) ?_
    refine ow_gives rfl F.hb12 rfl (hnum) (by repeat (first | exact Split.nil | apply Split.cons (by repeat (first | exact Fnd.here | apply Fnd.there)))) ?_
    simp only [List.cons_append, List.nil_append]
    refine ow_y (y_move rfl) ?_
    refine ow_y (y_ext rfl rfl) ?_
    refine ow_y (y_ext rfl rfl) ?_
    refine ow_y (y_assign rfl) ?_
    refine ow_y (y_assign rfl) ?_
    refine ow_nil ?_
    refine kw_code (fun _ _ h => h) ?_
    refine cw_seq ?_
    refine cw_region ?_
    refine ow_y (y_move rfl) ?_
    refine ow_y (y_move rfl) ?_
    refine ow_y (y_nil rfl) ?_
    refine ow_y (y_fld F.fld26_1 rfl) ?_
    refine ow_y (y_load F.sc24 rfl (by rfl)) ?_
    refine ow_y (y_move rfl) ?_
    refine (ow_buildSlice F.sl24 F.z3 rfl rfl rfl (by simp [fillL, madeL, Value.cells] <;> rfl) (fun b29 => ?_))
    refine (ow_append F.sl24 F.tb3 F.z3 rfl rfl rfl (by repeat (first | exact Fnd.here | apply Fnd.there)) (src_blk F.sl24 (by simp; rfl) (by simp) (by simp [Value.oneCell'])) (by simp only [maxLen]; omega) (by omega) (fun v30 hv30 => ?_))
    refine ow_y (y_nil rfl) ?_
    refine ow_y (y_fld F.fld26_1 rfl) ?_
    refine (ow_store F.sz24 rfl rfl (by first | rfl | assumption) (by rfl) (by (try simp only [List.set_cons_zero, List.set_cons_succ, Nat.reduceAdd, Nat.reduceMul, Int.reduceToNat, Nat.zero_add, Nat.add_zero]); rfl) ?_)
    refine ow_nil ?_
    refine kw_code (fun _ _ h => h) ?_
    refine cw_seq ?_
    refine cw_region ?_
    refine ow_y (y_move rfl) ?_
    refine ow_y (y_assign rfl) ?_
    refine ow_nil ?_
    refine kw_code (fun _ _ h => h) ?_
    refine cw_retE v30 hv30 (fun _ _ h => h) rfl rfl (by repeat (first | exact Split.nil | apply Split.cons (by repeat (first | exact Fnd.here | apply Fnd.there))))
end Go.Proofs.YtoolmpfkbaffcaaDoor
