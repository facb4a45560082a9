/- Part of the proof; no statement of its own: P7. -/
import Derived.Test.YtofffddcbjkdcaaP5
set_option linter.all false
namespace Go.Proofs.Ytofffddcbjkdcaa
open Go.Sl
abbrev pout (b : Nat) (v : Value) (l : List UInt8) : List Asrt := [pts b (.cells #[v] 69 (0, 0)), rowA 5 1 v l.length (l.map byteV)]
/-- a number's bytes, the highest first: some of them -/
def beB (x k : Nat) : Nat → List UInt8
  | 0 => []
  | m + 1 => beB x k m ++ [UInt8.ofNat (x / 256 ^ (k - 1 - m))]
theorem beB_len (x k m : Nat) : (beB x k m).length = m := by
  induction m with
  | zero => rfl
  | succ m ih => simp [beB, ih]
theorem otext_spec (b : Nat) (v : Value) (l : List UInt8) (s : ByteArray) (hl : l.length ≤ 1000000) (hs : s.size ≤ 1000000) (h1 : v.oneCell' = true) :
    Does Try.prog 39 #[.pointer (some ⟨b, 0, none⟩), .string s] (pout b v l) (GivesE (fun v' : Value => v'.oneCell' = true) (fun _ => .pointer (some ⟨b, 0, none⟩)) (fun v' => pout b v' (l ++ s.data.toList))) := by
  have hsl : s.data.toList.length = s.size := by simp
  have hbl : (byteCells s) = s.data.toList.map byteV := rfl
  refine does_enter Try.func39 rfl Try.ntmps39 rfl (fun R w0 => ?_)
  simp only [envOf, List.cons_append, List.nil_append]
  refine cw_seq ?_
  refine cw_region ?_
  refine ow_y (y_assign rfl) ?_
  refine ow_nil ?_
  refine kw_code (fun _ _ h => h) ?_
  refine cw_seq ?_
  refine cw_region ?_
  refine ow_y (y_move rfl) ?_
  refine ow_y (y_move rfl) ?_
  refine ow_y (y_nil rfl) ?_
  refine ow_y (y_fld F.fld69_0 rfl) ?_
  refine ow_y (y_load F.sc29 rfl (by rfl)) ?_
  refine ow_y (y_move rfl) ?_
  refine (ow_append F.sl29 F.tb5 F.z5 rfl rfl rfl (by repeat (first | exact Fnd.here | apply Fnd.there)) (src_str F.st9) (by simp only [maxLen]; omega) (by omega) (fun v11 hv11 => ?_))
  refine ow_y (y_nil rfl) ?_
  refine ow_y (y_fld F.fld69_0 rfl) ?_
  refine (ow_store F.sz29 rfl rfl (by first | rfl | assumption) (by rfl) (by (try simp only [List.set_cons_zero, List.set_cons_succ, Nat.reduceAdd, Nat.reduceMul, Int.reduceToNat, Nat.zero_add, Nat.add_zero]); rfl) ?_)
  refine ow_nil ?_
  rw [hbl, ← List.map_append, ← hsl, ← List.length_append]
  refine kw_code (fun _ _ h => h) ?_
  refine cw_seq ?_
  refine cw_region ?_
  refine ow_y (y_move rfl) ?_
  refine ow_y (y_assign rfl) ?_
  refine ow_nil ?_
  refine kw_code (fun _ _ h => h) ?_
  refine cw_retE v11 hv11 (fun _ _ h => h) rfl rfl (by repeat (first | exact Split.nil | apply Split.cons (by repeat (first | exact Fnd.here | apply Fnd.there))))
theorem beB_bound (x k m : Nat) (hk : k ≤ 8) : (beB x k m).length = m := beB_len x k m
theorem byte_at (x k m : Nat) (h : m < k) : IntKind.u8.wrap ((x : Int) / 2 ^ (8 * ((k : Int) - 1 - (m : Int))).toNat) = ((UInt8.ofNat (x / 256 ^ (k - 1 - m))).toNat : Int) := by
  have e1 : (8 * ((k : Int) - 1 - (m : Int))).toNat = 8 * (k - 1 - m) := by omega
  have e2 : (2 : Int) ^ (8 * (k - 1 - m)) = ((256 ^ (k - 1 - m) : Nat) : Int) := by rw [Int.pow_mul]; norm_cast
  rw [e1, e2, IntKind.wrap_u8, UInt8.toNat_ofNat', ← Int.natCast_ediv]
  omega
theorem onum_spec (b : Nat) (v : Value) (l : List UInt8) (x k : Nat) (hk : 1 ≤ k ∧ k ≤ 8) (hl : l.length ≤ 1000000) (h1 : v.oneCell' = true) (hx : x < 18446744073709551616) :
    Does Try.prog 38 #[.pointer (some ⟨b, 0, none⟩), .int .u64 x, .int .i64 k] (pout b v l) (GivesE (fun v' : Value => v'.oneCell' = true) (fun _ => .pointer (some ⟨b, 0, none⟩)) (fun v' => pout b v' (l ++ beB x k k))) := by
  have hmm : min (max (k : Int) 1) 8 = k := by omega
  refine does_enter Try.func38 rfl Try.ntmps38 rfl (fun R w0 => ?_)
  simp only [envOf, List.cons_append, List.nil_append]
  refine cw_seq ?_
  refine cw_region ?_
  refine ow_y (y_assign rfl) ?_
  refine ow_nil ?_
  refine kw_code (fun _ _ h => h) ?_
  refine cw_seq ?_
  refine cw_region ?_
  refine ow_y (y_move rfl) ?_
  refine ow_y (y_max rfl rfl) ?_
  refine ow_y (y_min rfl rfl) ?_
  refine ow_y (y_assign rfl) ?_
  refine ow_nil ?_
  rw [hmm]
  refine kw_code (fun _ _ h => h) ?_
  refine cw_seq ?_
  refine cw_seq ?_
  refine cw_region ?_
  refine ow_y (y_move rfl) ?_
  refine ow_y (y_subI rfl rfl (by omega)) ?_
  refine ow_y (y_assign rfl) ?_
  refine ow_nil ?_
  refine kw_code (fun _ _ h => h) ?_
  refine cw_block ?_
  rw [show (k : Int) - 1 = (k : Int) - 1 - ((0 : Nat) : Int) from by omega]
  refine cw_eqL (L' := pout b v (l ++ beB x k 0) ++ [R]) (by simp [beB]) ?_
  refine cw_loop (X := {y : Nat × Value // y.1 ≤ k ∧ y.2.oneCell' = true}) (fun y => [(0, .pointer (some ⟨b, 0, none⟩)), (1, .int .u64 x), (7, .int .i64 ((k : Int) - 1 - y.1.1))]) (fun y => pout b y.1.2 (l ++ beB x k y.1.1) ++ [R]) (fun y => k - y.1.1) ⟨(0, v), by omega, h1⟩ (by repeat (first | exact Sub.nil | refine Sub.cons rfl ?_)) (by repeat (first | exact Split.nil | apply Split.cons (by repeat (first | exact Fnd.here | apply Fnd.there)))) ?_
  rintro ⟨⟨m, v⟩, hm, hv⟩ m0 hm0
  try simp only at hm0
  try dsimp only
  simp only at hm hv
  simp only [List.cons_append, List.nil_append]
  have hlen : (l ++ beB x k m).length = l.length + m := by rw [List.length_append, beB_len]
  refine cw_seq ?_
  refine cw_seq ?_
  refine cw_region ?_
  refine ow_y (y_move rfl) ?_
  refine ow_y (y_geq rfl rfl) ?_
  refine ow_nil ?_
  refine kw_code (fun _ _ h => h) ?_
  refine cw_if rfl (fun hb14 => ?_) (fun hb14 => ?_)
  · skip
    have hmk : m < k := by have := of_decide_eq_true hb14; omega
    have hby := byte_at x k m hmk
    refine cw_skip ?_
    refine kw_code (fun _ _ h => h) ?_
    refine cw_seq ?_
    refine cw_block ?_
    refine cw_float (.soft 0 (.soft 1 (.soft 2 (.soft 3 (.soft 5 (.soft 6 (.soft 7 (.soft 8 (.soft 9 (.float 10 (.hard 4 (.res (.hard 11 (.soft 12 (.soft 13 (.hard 14 .done)))))))))))))))) [] F.fol (by kernel_rfl) (by repeat (first | with_reducible exact NoSlots.bp | with_reducible apply NoSlots.then | with_reducible apply NoSlots.inBlock)) (by repeat (first | exact Split.nil | apply Split.cons (by repeat (first | exact Fnd.here | apply Fnd.there)))) ?_
    refine omf_y rfl (y_move rfl) ?_
    refine omf_y rfl (y_move rfl) ?_
    refine omf_y rfl (y_nil rfl) ?_
    refine omf_y rfl (y_fld F.fld69_0 rfl) ?_
    refine omf_y rfl (y_move rfl) ?_
    refine omf_y rfl (y_move rfl) ?_
    refine omf_y rfl (y_mulI rfl rfl (by omega)) ?_
    refine omf_y rfl (y_shr rfl rfl (by first | decide | (simp only [IntKind.bits]; omega))) ?_
    refine omf_y rfl (y_conv F.ts72 F.in5 rfl) ?_
    refine omf_fbuildSlice (e0 := [(26, _)]) rfl (by repeat (first | exact Sub.nil | refine Sub.cons rfl ?_)) (fun _ _ _ => rfl) F.sl29 F.z5 rfl rfl rfl (by simp [fillL, madeL, Value.cells] <;> rfl) rfl ?_
    refine omf_hard rfl (fun hok EE FF => ?_)
    simp only [List.cons_append, List.nil_append]
    refine ow_y (y_load F.sc29 rfl (by rfl)) ?_
    refine ow_nil ?_
    refine omf_next (E := EE) (F := FF) (by repeat (first | exact Tl.nil | apply Tl.cons)) (by repeat (first | exact Fnd.here | apply Fnd.there)) (by repeat (first | exact Split.nil | apply Split.cons (by repeat (first | exact Fnd.here | apply Fnd.there)))) (hok.put rfl) ?_
    refine omf_res (fun b27 => ?_)
    dsimp only
    refine omf_hard rfl (fun hok EE FF => ?_)
    simp only [List.cons_append, List.nil_append]
    refine (ow_append F.sl29 F.tb5 F.z5 rfl rfl rfl (by repeat (first | exact Fnd.here | apply Fnd.there)) (src_blk F.sl29 (by simp; rfl) (by simp) (by simp [Value.oneCell'])) (by simp only [maxLen]; omega) (by omega) (fun v28 hv28 => ?_))
    refine ow_nil ?_
    refine omf_next (E := EE) (F := FF) (by repeat (first | exact Tl.nil | apply Tl.cons)) (by repeat (first | exact Fnd.here | apply Fnd.there)) (by repeat (first | exact Split.nil | apply Split.cons (by repeat (first | exact Fnd.here | apply Fnd.there)))) (hok.put rfl) ?_
    refine omf_y rfl (y_nil rfl) ?_
    refine omf_y rfl (y_fld F.fld69_0 rfl) ?_
    refine omf_hard rfl (fun hok EE FF => ?_)
    simp only [List.cons_append, List.nil_append]
    refine (ow_store F.sz29 rfl rfl (by first | rfl | assumption) (by rfl) (by (try simp only [List.set_cons_zero, List.set_cons_succ, Nat.reduceAdd, Nat.reduceMul, Int.reduceToNat, Nat.zero_add, Nat.add_zero]); rfl) ?_)
    refine ow_nil ?_
    refine omf_next (E := EE) (F := FF) (by repeat (first | exact Tl.nil | apply Tl.cons)) (by repeat (first | exact Fnd.here | apply Fnd.there)) (by repeat (first | exact Split.nil | apply Split.cons (by repeat (first | exact Fnd.here | apply Fnd.there)))) hok ?_
    refine omf_nil ?_
    rw [hby]
    have e : (l ++ beB x k m).map byteV ++ [Value.int .u8 ((UInt8.ofNat (x / 256 ^ (k - 1 - m))).toNat : Int)] = (l ++ beB x k (m + 1)).map byteV := by simp [beB, byteV]
    rw [e, show (l ++ beB x k m).length + 1 = (l ++ beB x k (m + 1)).length from by simp only [List.length_append, beB_len]; omega]
    refine kw_code (fun _ _ h => h) ?_
    refine cw_region ?_
    refine ow_y (y_move rfl) ?_
    refine ow_y (y_subI rfl rfl (by omega)) ?_
    refine ow_y (y_assign rfl) ?_
    refine ow_nil ?_
    rw [show (k : Int) - 1 - (m : Int) - 1 = (k : Int) - 1 - ((m + 1 : Nat) : Int) from by omega]
    refine kw_rnd (fun _ _ h => h) (⟨(m + 1, v28), hmk, hv28⟩) (by first | omega | (simp only; omega)) (by repeat (first | exact Sub.nil | refine Sub.cons rfl ?_)) (by repeat (first | exact Split.nil | apply Split.cons (by repeat (first | exact Fnd.here | apply Fnd.there))))
  · skip
    have hmk : m = k := by have := of_decide_eq_false hb14; omega
    subst hmk
    refine cw_exit ?_
    refine kw_code (fun _ _ h => h) ?_
    refine cw_seq ?_
    refine cw_region ?_
    refine ow_y (y_move rfl) ?_
    refine ow_y (y_assign rfl) ?_
    refine ow_nil ?_
    refine kw_code (fun _ _ h => h) ?_
    refine cw_retE v hv (fun _ _ h => h) rfl rfl (by repeat (first | exact Split.nil | apply Split.cons (by repeat (first | exact Fnd.here | apply Fnd.there))))
end Go.Proofs.Ytofffddcbjkdcaa
