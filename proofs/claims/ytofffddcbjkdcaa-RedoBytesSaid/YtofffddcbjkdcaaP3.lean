/- Part of the proof; no statement of its own: P3. -/
import Derived.Test.YtofffddcbjkdcaaP2
set_option linter.all false
namespace Go.Proofs.Ytofffddcbjkdcaa
open Go.Sl
abbrev bs (l : List UInt8) : ByteArray := ⟨l.toArray⟩
theorem bs_size (l : List UInt8) : (bs l).size = l.length := by show l.toArray.size = _; simp
theorem bs_list (l : List UInt8) : (bs l).data.toList = l := by simp
theorem ba_ext {a b : ByteArray} (h : a.data.toList = b.data.toList) : a = b := Go.WideShapes.bytes_inj h
theorem bs_drop (l : List UInt8) (k : Nat) : (bs l).extract k (bs l).size = bs (l.drop k) := by
  refine ba_ext ?_
  rw [bs_list, bs_size]
  simp only [ByteArray.data_extract, Array.toList_extract, List.extract_eq_take_drop]
  rw [List.take_of_length_le (by simp)]
theorem bs_take (l : List UInt8) (k : Nat) : (bs l).extract 0 k = bs (l.take k) := by
  refine ba_ext ?_
  rw [bs_list]
  simp
abbrev pinL (b : Nat) (l : List UInt8) : Asrt := pin b (bs l)
theorem numL_ok (b : Nat) (l : List UInt8) (k : Nat) (hk : 1 ≤ k ∧ k ≤ 8) (hn : k ≤ l.length) (hs : l.length ≤ 1000000) :
    Does Try.prog 48 #[.pointer (some ⟨b, 0, none⟩), .int .i64 k] [pinL b l] (Gives (.int .u64 (be (l.take k) : Nat)) [pinL b (l.drop k)]) := by
  have := num_ok b (bs l) k hk (by rw [bs_size]; exact hn) (by rw [bs_size]; exact hs)
  rw [bs_drop, bs_list] at this
  exact this
theorem numL_end (b : Nat) (l : List UInt8) (k : Nat) (hk : 1 ≤ k ∧ k ≤ 8) (hn : l.length < k) (hs : l.length ≤ 1000000) :
    Does Try.prog 48 #[.pointer (some ⟨b, 0, none⟩), .int .i64 k] [pinL b l] (fun en L => en = .panicked (fault 2) ∧ L = [pinL b l]) :=
  num_end b (bs l) k hk (by rw [bs_size]; exact hn) (by rw [bs_size]; exact hs)
theorem leftL_spec (b : Nat) (l : List UInt8) : Does Try.prog 51 #[.pointer (some ⟨b, 0, none⟩)] [pinL b l] (Gives (.int .i64 l.length) [pinL b l]) := by
  have := left_spec b (bs l)
  rw [bs_size] at this
  exact this
theorem textL_ok (b : Nat) (l : List UInt8) (n : Nat) (hn : n ≤ l.length) (hs : l.length ≤ 1000000) : Does Try.prog 50 #[.pointer (some ⟨b, 0, none⟩), .int .i64 n] [pinL b l] (Gives (.string (bs (l.take n))) [pinL b (l.drop n)]) := by
  have := text_ok b (bs l) n (by rw [bs_size]; exact hn) (by rw [bs_size]; exact hs)
  rw [bs_drop, bs_take] at this
  exact this
theorem be_1 (l : List UInt8) (k m : Nat) (hk : k ≤ m) (hm : m ≤ 4) : be (l.take k) < 256 ^ m := Nat.lt_of_lt_of_le (be_lt _) (Nat.pow_le_pow_right (by decide) (by simp; omega))
/-- an op, as a value -/
def opV (kind id at_ n : Nat) (data : ByteArray) : Value := .agg #[.int .i64 kind, .int .u32 id, .int .i64 at_, .int .i64 n, .string data]
def opL (l : List UInt8) : Value := opV (be (l.take 1)) (be ((l.drop 1).take 4)) (be ((l.drop 5).take 2)) (be ((l.drop 7).take 2)) (bs (l.drop 9))
theorem parse_ok (l : List UInt8) (h9 : 9 ≤ l.length) (hs : l.length ≤ 1000000) (h1 : 1 ≤ be (l.take 1)) (h7 : be (l.take 1) ≤ 7) : Does Try.prog 43 #[.string (bs l)] [] (Gives (opL l) []) := by
  have b1 := be_1 l 1 1 (by omega) (by omega)
  have b2 := be_1 (l.drop 1) 4 4 (by omega) (by omega)
  have b3 := be_1 (l.drop 5) 2 2 (by omega) (by omega)
  have b4 := be_1 (l.drop 7) 2 2 (by omega) (by omega)
  have w1 : IntKind.i64.wrap ((be (l.take 1) : Nat) : Int) = (be (l.take 1) : Nat) := wrap_sm _ _ (by omega) (by simp only [IntKind.bits]; omega)
  have w2 : IntKind.u32.wrap ((be ((l.drop 1).take 4) : Nat) : Int) = (be ((l.drop 1).take 4) : Nat) := by rw [IntKind.wrap_u32]; omega
  have w3 : IntKind.i64.wrap ((be ((l.drop 5).take 2) : Nat) : Int) = (be ((l.drop 5).take 2) : Nat) := wrap_sm _ _ (by omega) (by simp only [IntKind.bits]; omega)
  have w4 : IntKind.i64.wrap ((be ((l.drop 7).take 2) : Nat) : Int) = (be ((l.drop 7).take 2) : Nat) := wrap_sm _ _ (by omega) (by simp only [IntKind.bits]; omega)
  have n2 := fun b => numL_ok b (l.drop 1) 4 (by omega) (by simp; omega) (by simp; omega)
  have n3 := fun b => numL_ok b (l.drop 5) 2 (by omega) (by simp; omega) (by simp; omega)
  have n4 := fun b => numL_ok b (l.drop 7) 2 (by omega) (by simp; omega) (by simp; omega)
  simp only [List.drop_drop, Nat.reduceAdd] at n2 n3 n4
  have hlf := fun b => leftL_spec b (l.drop 9)
  have htx := fun b => textL_ok b (l.drop 9) (l.drop 9).length (Nat.le_refl _) (by simp; omega)
  simp only [List.take_length, List.drop_length] at htx
  refine does_enter Try.func43 rfl Try.ntmps43 rfl (fun R w0 => ?_)
  simp only [envOf, List.cons_append, List.nil_append]
  refine cw_seq ?_
  refine cw_region ?_
  refine (ow_alloc F.z46 (fun b2 => ?_))
  refine ow_nil ?_
  refine kw_code (fun _ _ h => h) ?_
  refine cw_seq ?_
  refine cw_region ?_
  refine ow_y (y_move rfl) ?_
  refine ow_givesE rfl F.hb47 rfl (read_spec (bs l)) (by repeat (first | exact Split.nil | apply Split.cons (by repeat (first | exact Fnd.here | apply Fnd.there)))) ?_
  rintro b6 _
  simp only [List.cons_append, List.nil_append]
  refine ow_y (y_assign rfl) ?_
  refine ow_nil ?_
  refine kw_code (fun _ _ h => h) ?_
  refine cw_seq ?_
  refine cw_region ?_
  refine ow_y (y_move rfl) ?_
  refine ow_gives rfl F.hb48 rfl (numL_ok b6 l 1 (by omega) (by omega) hs) (by repeat (first | exact Split.nil | apply Split.cons (by repeat (first | exact Fnd.here | apply Fnd.there)))) ?_
  simp only [List.cons_append, List.nil_append]
  refine ow_y (y_conv F.ts72 F.in3 rfl) ?_
  refine ow_y (y_move rfl) ?_
  refine ow_gives rfl F.hb48 rfl (n2 b6) (by repeat (first | exact Split.nil | apply Split.cons (by repeat (first | exact Fnd.here | apply Fnd.there)))) ?_
  simp only [List.cons_append, List.nil_append]
  refine ow_y (y_conv F.ts72 F.in24 rfl) ?_
  refine ow_y (y_move rfl) ?_
  refine ow_gives rfl F.hb48 rfl (n3 b6) (by repeat (first | exact Split.nil | apply Split.cons (by repeat (first | exact Fnd.here | apply Fnd.there)))) ?_
  simp only [List.cons_append, List.nil_append]
  refine ow_y (y_conv F.ts72 F.in3 rfl) ?_
  refine ow_y (y_move rfl) ?_
  refine ow_gives rfl F.hb48 rfl (n4 b6) (by repeat (first | exact Split.nil | apply Split.cons (by repeat (first | exact Fnd.here | apply Fnd.there)))) ?_
  simp only [List.cons_append, List.nil_append]
  refine ow_y (y_conv F.ts72 F.in3 rfl) ?_
  simp only [w1, w2, w3, w4]
  refine ow_y (y_build F.pl46 rfl (by simp [fillL, nth, Value.cells] <;> rfl)) ?_
  refine (ow_alloc F.z46 (fun b4 => ?_))
  refine (ow_storeAgg F.sz46 rfl rfl (by first | rfl | simp) (by simp [Value.oneCell']) (by simp [Value.cells]) (by simp [splice, Value.cells] <;> rfl) ?_)
  refine ow_nil ?_
  refine kw_code (fun _ _ h => h) ?_
  refine cw_seq ?_
  refine cw_seq ?_
  refine cw_region ?_
  refine ow_y (y_fld F.fld46_0 rfl) ?_
  refine ow_y (y_load F.sc3 rfl (by rfl)) ?_
  refine ow_y (y_lss rfl rfl) ?_
  refine ow_y (y_move rfl) ?_
  refine ow_yg (y_fld F.fld46_0 rfl) (fun a w hh => (want_of rfl rfl rfl hh).trans (wFF (by first | rfl | exact decide_eq_false (by omega)))) ?_
  refine ow_yg (y_load F.sc3 rfl (by rfl)) (fun a w hh => (want_of rfl rfl rfl hh).trans (wFF (by first | rfl | exact decide_eq_false (by omega)))) ?_
  refine ow_yg (y_gtr rfl rfl) (fun a w hh => (want_of rfl rfl rfl hh).trans (wFF (by first | rfl | exact decide_eq_false (by omega)))) ?_
  refine ow_y (y_pickF rfl (by first | rfl | exact decide_eq_false (by omega)) rfl) ?_
  refine ow_nil ?_
  refine kw_code (fun _ _ h => h) ?_
  refine cw_false rfl (by first | rfl | exact decide_eq_false (by omega)) ?_
  refine cw_skip ?_
  refine kw_code (fun _ _ h => h) ?_
  refine cw_seq ?_
  refine cw_region ?_
  refine ow_y (y_move rfl) ?_
  refine ow_y (y_move rfl) ?_
  refine ow_gives rfl F.hb51 rfl (hlf b6) (by repeat (first | exact Split.nil | apply Split.cons (by repeat (first | exact Fnd.here | apply Fnd.there)))) ?_
  simp only [List.cons_append, List.nil_append]
  refine ow_gives rfl F.hb50 rfl (htx b6) (by repeat (first | exact Split.nil | apply Split.cons (by repeat (first | exact Fnd.here | apply Fnd.there)))) ?_
  simp only [List.cons_append, List.nil_append]
  refine ow_y (y_fld F.fld46_4 rfl) ?_
  refine (ow_store F.sz9 rfl rfl (by first | rfl | assumption) (by rfl) (by (try simp only [List.set_cons_zero, List.set_cons_succ, Nat.reduceAdd, Nat.reduceMul, Int.reduceToNat, Nat.zero_add, Nat.add_zero]); rfl) ?_)
  refine ow_nil ?_
  refine kw_code (fun _ _ h => h) ?_
  refine cw_seq ?_
  refine cw_region ?_
  refine ow_y (y_loadAgg F.ag46 rfl (by simp) (by rfl)) ?_
  refine (ow_storeAgg F.sz46 rfl rfl (by first | rfl | simp) (by simp [Value.oneCell']) (by simp [Value.cells]) (by simp [splice, Value.cells] <;> rfl) ?_)
  refine ow_nil ?_
  rw [← List.drop_one]
  refine kw_code (fun _ _ h => h) ?_
  refine cw_retGC (fun _ _ h => h) (RV.agg F.ag46 rfl (by simp) (by rfl) RV.nil) rfl (by repeat (first | exact Split.nil | apply Split.cons (by repeat (first | exact Fnd.here | apply Fnd.there))))
theorem parse_kind (l : List UInt8) (h9 : 9 ≤ l.length) (hs : l.length ≤ 1000000) (h1 : ¬ (1 ≤ be (l.take 1) ∧ be (l.take 1) ≤ 7)) : Does Try.prog 43 #[.string (bs l)] [] (Fails 15) := by
  have b1 := be_1 l 1 1 (by omega) (by omega)
  have w1 : IntKind.i64.wrap ((be (l.take 1) : Nat) : Int) = (be (l.take 1) : Nat) := wrap_sm _ _ (by omega) (by simp only [IntKind.bits]; omega)
  have n2 := fun b => numL_ok b (l.drop 1) 4 (by omega) (by simp; omega) (by simp; omega)
  have n3 := fun b => numL_ok b (l.drop 5) 2 (by omega) (by simp; omega) (by simp; omega)
  have n4 := fun b => numL_ok b (l.drop 7) 2 (by omega) (by simp; omega) (by simp; omega)
  simp only [List.drop_drop, Nat.reduceAdd] at n2 n3 n4
  by_cases h0 : be (l.take 1) = 0
  · skip
    refine does_enter Try.func43 rfl Try.ntmps43 rfl (fun R w0 => ?_)
    simp only [envOf, List.cons_append, List.nil_append]
    refine cw_seq ?_
    refine cw_region ?_
    refine (ow_alloc F.z46 (fun b2 => ?_))
    refine ow_nil ?_
    refine kw_code (fun _ _ h => h) ?_
    refine cw_seq ?_
    refine cw_region ?_
    refine ow_y (y_move rfl) ?_
    refine ow_givesE rfl F.hb47 rfl (read_spec (bs l)) (by repeat (first | exact Split.nil | apply Split.cons (by repeat (first | exact Fnd.here | apply Fnd.there)))) ?_
    rintro b6 _
    simp only [List.cons_append, List.nil_append]
    refine ow_y (y_assign rfl) ?_
    refine ow_nil ?_
    refine kw_code (fun _ _ h => h) ?_
    refine cw_seq ?_
    refine cw_region ?_
    refine ow_y (y_move rfl) ?_
    refine ow_gives rfl F.hb48 rfl (numL_ok b6 l 1 (by omega) (by omega) hs) (by repeat (first | exact Split.nil | apply Split.cons (by repeat (first | exact Fnd.here | apply Fnd.there)))) ?_
    simp only [List.cons_append, List.nil_append]
    refine ow_y (y_conv F.ts72 F.in3 rfl) ?_
    refine ow_y (y_move rfl) ?_
    refine ow_gives rfl F.hb48 rfl (n2 b6) (by repeat (first | exact Split.nil | apply Split.cons (by repeat (first | exact Fnd.here | apply Fnd.there)))) ?_
    simp only [List.cons_append, List.nil_append]
    refine ow_y (y_conv F.ts72 F.in24 rfl) ?_
    refine ow_y (y_move rfl) ?_
    refine ow_gives rfl F.hb48 rfl (n3 b6) (by repeat (first | exact Split.nil | apply Split.cons (by repeat (first | exact Fnd.here | apply Fnd.there)))) ?_
    simp only [List.cons_append, List.nil_append]
    refine ow_y (y_conv F.ts72 F.in3 rfl) ?_
    refine ow_y (y_move rfl) ?_
    refine ow_gives rfl F.hb48 rfl (n4 b6) (by repeat (first | exact Split.nil | apply Split.cons (by repeat (first | exact Fnd.here | apply Fnd.there)))) ?_
    simp only [List.cons_append, List.nil_append]
    refine ow_y (y_conv F.ts72 F.in3 rfl) ?_
    simp only [w1]
    refine ow_y (y_build F.pl46 rfl (by simp [fillL, nth, Value.cells] <;> rfl)) ?_
    refine (ow_alloc F.z46 (fun b4 => ?_))
    refine (ow_storeAgg F.sz46 rfl rfl (by first | rfl | simp) (by simp [Value.oneCell']) (by simp [Value.cells]) (by simp [splice, Value.cells] <;> rfl) ?_)
    refine ow_nil ?_
    refine kw_code (fun _ _ h => h) ?_
    refine cw_seq ?_
    refine cw_seq ?_
    refine cw_region ?_
    refine ow_y (y_fld F.fld46_0 rfl) ?_
    refine ow_y (y_load F.sc3 rfl (by rfl)) ?_
    refine ow_y (y_lss rfl rfl) ?_
    refine ow_y (y_move rfl) ?_
    refine ow_skip rfl (fun a w hh => (want_of rfl rfl rfl hh).trans (wFT (by first | rfl | exact decide_eq_true (by omega)))) ?_
    refine ow_skip rfl (fun a w hh => (want_of rfl rfl rfl hh).trans (wFT (by first | rfl | exact decide_eq_true (by omega)))) ?_
    refine ow_skip rfl (fun a w hh => (want_of rfl rfl rfl hh).trans (wFT (by first | rfl | exact decide_eq_true (by omega)))) ?_
    refine ow_y (y_pickT rfl (by first | rfl | exact decide_eq_true (by omega)) rfl) ?_
    refine ow_nil ?_
    refine kw_code (fun _ _ h => h) ?_
    refine cw_true rfl (by first | rfl | exact decide_eq_true (by omega)) ?_
    refine cw_region ?_
    refine ow_fails rfl F.hb49 rfl (fail_spec 15) (by repeat (first | exact Split.nil | apply Split.cons (by repeat (first | exact Fnd.here | apply Fnd.there)))) ?_
    simp only [List.cons_append, List.nil_append]
    repeat (first | with_reducible refine kw_inBlock_panic ?_ | with_reducible refine kw_then_panic ?_)
    refine kw_panic (fun _ _ h => h) (Split.back (by repeat (first | exact Split.nil | apply Split.cons (by repeat (first | exact Fnd.here | apply Fnd.there))))) ⟨rfl, rfl⟩
  · skip
    refine does_enter Try.func43 rfl Try.ntmps43 rfl (fun R w0 => ?_)
    simp only [envOf, List.cons_append, List.nil_append]
    refine cw_seq ?_
    refine cw_region ?_
    refine (ow_alloc F.z46 (fun b2 => ?_))
    refine ow_nil ?_
    refine kw_code (fun _ _ h => h) ?_
    refine cw_seq ?_
    refine cw_region ?_
    refine ow_y (y_move rfl) ?_
    refine ow_givesE rfl F.hb47 rfl (read_spec (bs l)) (by repeat (first | exact Split.nil | apply Split.cons (by repeat (first | exact Fnd.here | apply Fnd.there)))) ?_
    rintro b6 _
    simp only [List.cons_append, List.nil_append]
    refine ow_y (y_assign rfl) ?_
    refine ow_nil ?_
    refine kw_code (fun _ _ h => h) ?_
    refine cw_seq ?_
    refine cw_region ?_
    refine ow_y (y_move rfl) ?_
    refine ow_gives rfl F.hb48 rfl (numL_ok b6 l 1 (by omega) (by omega) hs) (by repeat (first | exact Split.nil | apply Split.cons (by repeat (first | exact Fnd.here | apply Fnd.there)))) ?_
    simp only [List.cons_append, List.nil_append]
    refine ow_y (y_conv F.ts72 F.in3 rfl) ?_
    refine ow_y (y_move rfl) ?_
    refine ow_gives rfl F.hb48 rfl (n2 b6) (by repeat (first | exact Split.nil | apply Split.cons (by repeat (first | exact Fnd.here | apply Fnd.there)))) ?_
    simp only [List.cons_append, List.nil_append]
    refine ow_y (y_conv F.ts72 F.in24 rfl) ?_
    refine ow_y (y_move rfl) ?_
    refine ow_gives rfl F.hb48 rfl (n3 b6) (by repeat (first | exact Split.nil | apply Split.cons (by repeat (first | exact Fnd.here | apply Fnd.there)))) ?_
    simp only [List.cons_append, List.nil_append]
    refine ow_y (y_conv F.ts72 F.in3 rfl) ?_
    refine ow_y (y_move rfl) ?_
    refine ow_gives rfl F.hb48 rfl (n4 b6) (by repeat (first | exact Split.nil | apply Split.cons (by repeat (first | exact Fnd.here | apply Fnd.there)))) ?_
    simp only [List.cons_append, List.nil_append]
    refine ow_y (y_conv F.ts72 F.in3 rfl) ?_
    simp only [w1]
    refine ow_y (y_build F.pl46 rfl (by simp [fillL, nth, Value.cells] <;> rfl)) ?_
    refine (ow_alloc F.z46 (fun b4 => ?_))
    refine (ow_storeAgg F.sz46 rfl rfl (by first | rfl | simp) (by simp [Value.oneCell']) (by simp [Value.cells]) (by simp [splice, Value.cells] <;> rfl) ?_)
    refine ow_nil ?_
    refine kw_code (fun _ _ h => h) ?_
    refine cw_seq ?_
    refine cw_seq ?_
    refine cw_region ?_
    refine ow_y (y_fld F.fld46_0 rfl) ?_
    refine ow_y (y_load F.sc3 rfl (by rfl)) ?_
    refine ow_y (y_lss rfl rfl) ?_
    refine ow_y (y_move rfl) ?_
    refine ow_yg (y_fld F.fld46_0 rfl) (fun a w hh => (want_of rfl rfl rfl hh).trans (wFF (by first | rfl | exact decide_eq_false (by omega)))) ?_
    refine ow_yg (y_load F.sc3 rfl (by rfl)) (fun a w hh => (want_of rfl rfl rfl hh).trans (wFF (by first | rfl | exact decide_eq_false (by omega)))) ?_
    refine ow_yg (y_gtr rfl rfl) (fun a w hh => (want_of rfl rfl rfl hh).trans (wFF (by first | rfl | exact decide_eq_false (by omega)))) ?_
    refine ow_y (y_pickF rfl (by first | rfl | exact decide_eq_false (by omega)) rfl) ?_
    refine ow_nil ?_
    refine kw_code (fun _ _ h => h) ?_
    refine cw_true rfl (by first | rfl | exact decide_eq_true (by omega)) ?_
    refine cw_region ?_
    refine ow_fails rfl F.hb49 rfl (fail_spec 15) (by repeat (first | exact Split.nil | apply Split.cons (by repeat (first | exact Fnd.here | apply Fnd.there)))) ?_
    simp only [List.cons_append, List.nil_append]
    repeat (first | with_reducible refine kw_inBlock_panic ?_ | with_reducible refine kw_then_panic ?_)
    refine kw_panic (fun _ _ h => h) (Split.back (by repeat (first | exact Split.nil | apply Split.cons (by repeat (first | exact Fnd.here | apply Fnd.there))))) ⟨rfl, rfl⟩
theorem parse_end (l : List UInt8) (h9 : l.length < 9) : Does Try.prog 43 #[.string (bs l)] [] (Fails 2) := by
  by_cases g1 : l.length < 1
  · skip
    refine does_enter Try.func43 rfl Try.ntmps43 rfl (fun R w0 => ?_)
    simp only [envOf, List.cons_append, List.nil_append]
    refine cw_seq ?_
    refine cw_region ?_
    refine (ow_alloc F.z46 (fun b2 => ?_))
    refine ow_nil ?_
    refine kw_code (fun _ _ h => h) ?_
    refine cw_seq ?_
    refine cw_region ?_
    refine ow_y (y_move rfl) ?_
    refine ow_givesE rfl F.hb47 rfl (read_spec (bs l)) (by repeat (first | exact Split.nil | apply Split.cons (by repeat (first | exact Fnd.here | apply Fnd.there)))) ?_
    rintro b6 _
    simp only [List.cons_append, List.nil_append]
    refine ow_y (y_assign rfl) ?_
    refine ow_nil ?_
    refine kw_code (fun _ _ h => h) ?_
    refine cw_seq ?_
    refine cw_region ?_
    refine ow_y (y_move rfl) ?_
    refine ow_fails rfl F.hb48 rfl (numL_end b6 l 1 (by omega) (by omega) (by omega)) (by repeat (first | exact Split.nil | apply Split.cons (by repeat (first | exact Fnd.here | apply Fnd.there)))) ?_
    simp only [List.cons_append, List.nil_append]
    repeat (first | with_reducible refine kw_inBlock_panic ?_ | with_reducible refine kw_then_panic ?_)
    refine kw_panic (fun _ _ h => h) (Split.back (by repeat (first | exact Split.nil | apply Split.cons (by repeat (first | exact Fnd.here | apply Fnd.there))))) ⟨rfl, rfl⟩
  · by_cases g2 : l.length < 5
    · skip
      refine does_enter Try.func43 rfl Try.ntmps43 rfl (fun R w0 => ?_)
      simp only [envOf, List.cons_append, List.nil_append]
      refine cw_seq ?_
      refine cw_region ?_
      refine (ow_alloc F.z46 (fun b2 => ?_))
      refine ow_nil ?_
      refine kw_code (fun _ _ h => h) ?_
      refine cw_seq ?_
      refine cw_region ?_
      refine ow_y (y_move rfl) ?_
      refine ow_givesE rfl F.hb47 rfl (read_spec (bs l)) (by repeat (first | exact Split.nil | apply Split.cons (by repeat (first | exact Fnd.here | apply Fnd.there)))) ?_
      rintro b6 _
      simp only [List.cons_append, List.nil_append]
      refine ow_y (y_assign rfl) ?_
      refine ow_nil ?_
      refine kw_code (fun _ _ h => h) ?_
      refine cw_seq ?_
      refine cw_region ?_
      refine ow_y (y_move rfl) ?_
      refine ow_gives rfl F.hb48 rfl (numL_ok b6 l 1 (by omega) (by omega) (by omega)) (by repeat (first | exact Split.nil | apply Split.cons (by repeat (first | exact Fnd.here | apply Fnd.there)))) ?_
      simp only [List.cons_append, List.nil_append]
      refine ow_y (y_conv F.ts72 F.in3 rfl) ?_
      refine ow_y (y_move rfl) ?_
      refine ow_fails rfl F.hb48 rfl (numL_end b6 (l.drop 1) 4 (by omega) (by simp; omega) (by simp; omega)) (by repeat (first | exact Split.nil | apply Split.cons (by repeat (first | exact Fnd.here | apply Fnd.there)))) ?_
      simp only [List.cons_append, List.nil_append]
      repeat (first | with_reducible refine kw_inBlock_panic ?_ | with_reducible refine kw_then_panic ?_)
      refine kw_panic (fun _ _ h => h) (Split.back (by repeat (first | exact Split.nil | apply Split.cons (by repeat (first | exact Fnd.here | apply Fnd.there))))) ⟨rfl, rfl⟩
    · have n2 := fun b => numL_ok b (l.drop 1) 4 (by omega) (by simp; omega) (by simp; omega)
      simp only [List.drop_drop, Nat.reduceAdd] at n2
      by_cases g3 : l.length < 7
      · skip
        refine does_enter Try.func43 rfl Try.ntmps43 rfl (fun R w0 => ?_)
        simp only [envOf, List.cons_append, List.nil_append]
        refine cw_seq ?_
        refine cw_region ?_
        refine (ow_alloc F.z46 (fun b2 => ?_))
        refine ow_nil ?_
        refine kw_code (fun _ _ h => h) ?_
        refine cw_seq ?_
        refine cw_region ?_
        refine ow_y (y_move rfl) ?_
        refine ow_givesE rfl F.hb47 rfl (read_spec (bs l)) (by repeat (first | exact Split.nil | apply Split.cons (by repeat (first | exact Fnd.here | apply Fnd.there)))) ?_
        rintro b6 _
        simp only [List.cons_append, List.nil_append]
        refine ow_y (y_assign rfl) ?_
        refine ow_nil ?_
        refine kw_code (fun _ _ h => h) ?_
        refine cw_seq ?_
        refine cw_region ?_
        refine ow_y (y_move rfl) ?_
        refine ow_gives rfl F.hb48 rfl (numL_ok b6 l 1 (by omega) (by omega) (by omega)) (by repeat (first | exact Split.nil | apply Split.cons (by repeat (first | exact Fnd.here | apply Fnd.there)))) ?_
        simp only [List.cons_append, List.nil_append]
        refine ow_y (y_conv F.ts72 F.in3 rfl) ?_
        refine ow_y (y_move rfl) ?_
        refine ow_gives rfl F.hb48 rfl (n2 b6) (by repeat (first | exact Split.nil | apply Split.cons (by repeat (first | exact Fnd.here | apply Fnd.there)))) ?_
        simp only [List.cons_append, List.nil_append]
        refine ow_y (y_conv F.ts72 F.in24 rfl) ?_
        refine ow_y (y_move rfl) ?_
        refine ow_fails rfl F.hb48 rfl (numL_end b6 (l.drop 5) 2 (by omega) (by simp; omega) (by simp; omega)) (by repeat (first | exact Split.nil | apply Split.cons (by repeat (first | exact Fnd.here | apply Fnd.there)))) ?_
        simp only [List.cons_append, List.nil_append]
        repeat (first | with_reducible refine kw_inBlock_panic ?_ | with_reducible refine kw_then_panic ?_)
        refine kw_panic (fun _ _ h => h) (Split.back (by repeat (first | exact Split.nil | apply Split.cons (by repeat (first | exact Fnd.here | apply Fnd.there))))) ⟨rfl, rfl⟩
      · have n3 := fun b => numL_ok b (l.drop 5) 2 (by omega) (by simp; omega) (by simp; omega)
        simp only [List.drop_drop, Nat.reduceAdd] at n3
        refine does_enter Try.func43 rfl Try.ntmps43 rfl (fun R w0 => ?_)
        simp only [envOf, List.cons_append, List.nil_append]
        refine cw_seq ?_
        refine cw_region ?_
        refine (ow_alloc F.z46 (fun b2 => ?_))
        refine ow_nil ?_
        refine kw_code (fun _ _ h => h) ?_
        refine cw_seq ?_
        refine cw_region ?_
        refine ow_y (y_move rfl) ?_
        refine ow_givesE rfl F.hb47 rfl (read_spec (bs l)) (by repeat (first | exact Split.nil | apply Split.cons (by repeat (first | exact Fnd.here | apply Fnd.there)))) ?_
        rintro b6 _
        simp only [List.cons_append, List.nil_append]
        refine ow_y (y_assign rfl) ?_
        refine ow_nil ?_
        refine kw_code (fun _ _ h => h) ?_
        refine cw_seq ?_
        refine cw_region ?_
        refine ow_y (y_move rfl) ?_
        refine ow_gives rfl F.hb48 rfl (numL_ok b6 l 1 (by omega) (by omega) (by omega)) (by repeat (first | exact Split.nil | apply Split.cons (by repeat (first | exact Fnd.here | apply Fnd.there)))) ?_
        simp only [List.cons_append, List.nil_append]
        refine ow_y (y_conv F.ts72 F.in3 rfl) ?_
        refine ow_y (y_move rfl) ?_
        refine ow_gives rfl F.hb48 rfl (n2 b6) (by repeat (first | exact Split.nil | apply Split.cons (by repeat (first | exact Fnd.here | apply Fnd.there)))) ?_
        simp only [List.cons_append, List.nil_append]
        refine ow_y (y_conv F.ts72 F.in24 rfl) ?_
        refine ow_y (y_move rfl) ?_
        refine ow_gives rfl F.hb48 rfl (n3 b6) (by repeat (first | exact Split.nil | apply Split.cons (by repeat (first | exact Fnd.here | apply Fnd.there)))) ?_
        simp only [List.cons_append, List.nil_append]
        refine ow_y (y_conv F.ts72 F.in3 rfl) ?_
        refine ow_y (y_move rfl) ?_
        refine ow_fails rfl F.hb48 rfl (numL_end b6 (l.drop 7) 2 (by omega) (by simp; omega) (by simp; omega)) (by repeat (first | exact Split.nil | apply Split.cons (by repeat (first | exact Fnd.here | apply Fnd.there)))) ?_
        simp only [List.cons_append, List.nil_append]
        repeat (first | with_reducible refine kw_inBlock_panic ?_ | with_reducible refine kw_then_panic ?_)
        refine kw_panic (fun _ _ h => h) (Split.back (by repeat (first | exact Split.nil | apply Split.cons (by repeat (first | exact Fnd.here | apply Fnd.there))))) ⟨rfl, rfl⟩
end Go.Proofs.Ytofffddcbjkdcaa
