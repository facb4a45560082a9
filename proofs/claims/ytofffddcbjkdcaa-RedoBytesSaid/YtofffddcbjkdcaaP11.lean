/- Part of the proof; no statement of its own: P11. -/
import Derived.Test.YtofffddcbjkdcaaP10
set_option linter.all false
namespace Go.Proofs.Ytofffddcbjkdcaa
open Go.Sl
theorem beB_front (x k : Nat) : ∀ m, m ≤ k → beB x (k + 1) (m + 1) = UInt8.ofNat (x / 256 ^ k) :: beB x k m := by
  intro m
  induction m with
  | zero => intro _; simp [beB]
  | succ m ih =>
    intro h
    rw [beB, ih (by omega), beB, List.cons_append, show k + 1 - 1 - (m + 1) = k - 1 - m by omega]
theorem low_byte (y : Nat) : IntKind.u8.wrap ((y : Int) % 256) = ((UInt8.ofNat y).toNat : Int) := by
  rw [IntKind.wrap_u8, UInt8.toNat_ofNat']
  omega
theorem u64_div (y : Nat) (h : y < 18446744073709551616) : IntKind.u64.wrap ((y : Int).tdiv 256) = ((y / 256 : Nat) : Int) := by
  rw [Int.tdiv_eq_ediv_of_nonneg (Int.natCast_nonneg _)]
  exact wrap_u64 _ _ (by omega) (by omega)
theorem rnum_spec (x k : Nat) (hk : 1 ≤ k ∧ k ≤ 8) (hx : x < 18446744073709551616) : Does Try.prog 44 #[.int .u64 x, .int .i64 k] [] (Gives (.string (bs (beB x k k))) []) := by
  have hmm : min (max (k : Int) 1) 8 = k := by omega
  refine does_enter Try.func44 rfl Try.ntmps44 rfl (fun R w0 => ?_)
  simp only [envOf, List.cons_append, List.nil_append]
  refine cw_seq ?_
  refine cw_region ?_
  refine ow_y (y_assign rfl) ?_
  refine ow_nil ?_
  refine kw_code (fun _ _ h => h) ?_
  refine cw_seq ?_
  refine cw_region ?_
  refine ow_y (y_assign rfl) ?_
  refine ow_nil ?_
  refine kw_code (fun _ _ h => h) ?_
  refine cw_seq ?_
  refine cw_seq ?_
  refine cw_region ?_
  refine ow_y (y_assign rfl) ?_
  refine ow_nil ?_
  refine kw_code (fun _ _ h => h) ?_
  refine cw_block ?_
  rw [show (x : Int) = ((x / 256 ^ 0 : Nat) : Int) from by simp, show (⟨#[]⟩ : ByteArray) = bs (beB x 0 0) from rfl]
  refine cw_loop (X := {i : Nat // i ≤ k}) (fun y => [(0, .int .u64 (x / 256 ^ y.1 : Nat)), (1, .int .i64 k), (5, .string (bs (beB x y.1 y.1))), (6, .int .i64 y.1)]) (fun y => [R]) (fun y => k - y.1) ⟨0, by omega⟩ (by repeat (first | exact Sub.nil | refine Sub.cons rfl ?_)) (by repeat (first | exact Split.nil | apply Split.cons (by repeat (first | exact Fnd.here | apply Fnd.there)))) ?_
  rintro ⟨i, hi⟩ m0 hm0
  try simp only at hm0
  try dsimp only
  have hdl : x / 256 ^ i ≤ x := Nat.div_le_self _ _
  have hsz := bs_size (beB x i i)
  rw [beB_len] at hsz
  refine cw_seq ?_
  refine cw_seq ?_
  refine cw_region ?_
  refine ow_y (y_move rfl) ?_
  refine ow_y (y_move rfl) ?_
  refine ow_y (y_max rfl rfl) ?_
  refine ow_y (y_min rfl rfl) ?_
  rw [hmm]
  refine ow_y (y_lss rfl rfl) ?_
  refine ow_nil ?_
  refine kw_code (fun _ _ h => h) ?_
  refine cw_if rfl (fun hb11 => ?_) (fun hb11 => ?_)
  · skip
    have hik : i < k := by have := of_decide_eq_true hb11; omega
    refine cw_skip ?_
    refine kw_code (fun _ _ h => h) ?_
    refine cw_seq ?_
    refine cw_block ?_
    refine cw_seq ?_
    refine cw_region ?_
    refine ow_y (y_move rfl) ?_
    refine ow_y (y_remI rfl rfl ⟨Int.natCast_nonneg _, by decide⟩) ?_
    refine ow_y (y_conv F.ts72 F.in5 rfl) ?_
    rw [low_byte]
    refine (ow_buildSlice F.sl29 F.z5 rfl rfl rfl (by simp [fillL, madeL, Value.cells] <;> rfl) (fun b17 => ?_))
    refine ow_y (y_text F.sl29 F.st9 F.by5 rfl (l := [UInt8.ofNat (x / 256 ^ i)]) rfl rfl) ?_
    refine ow_y (y_move rfl) ?_
    refine ow_y (y_str_add rfl rfl (by rw [hsz]; show 1 + i ≤ _; omega)) ?_
    refine ow_y (y_assign rfl) ?_
    refine ow_nil ?_
    rw [show (⟨[UInt8.ofNat (x / 256 ^ i)].toArray⟩ : ByteArray) ++ bs (beB x i i) = bs (beB x (i + 1) (i + 1)) from by rw [beB_front x i i (Nat.le_refl _)]; exact ba_ext (by simp)]
    refine kw_code (fun _ _ h => h) ?_
    refine cw_region ?_
    refine ow_y (y_move rfl) ?_
    refine ow_y (y_quo rfl rfl (by omega)) ?_
    refine ow_y (y_assign rfl) ?_
    refine ow_nil ?_
    rw [u64_div _ (by omega), show x / 256 ^ i / 256 = x / 256 ^ (i + 1) from by rw [Nat.div_div_eq_div_mul, Nat.pow_succ]]
    refine kw_code (fun _ _ h => h) ?_
    refine cw_region ?_
    refine ow_y (y_move rfl) ?_
    refine ow_y (y_addI rfl rfl (by omega)) ?_
    refine ow_y (y_assign rfl) ?_
    refine ow_nil ?_
    refine kw_rnd (fun _ _ h => h) (⟨i + 1, hik⟩) (by first | omega | (simp only; omega)) (by repeat (first | exact Sub.nil | refine Sub.cons rfl ?_)) (by repeat (first | exact Split.nil | apply Split.cons (by repeat (first | exact Fnd.here | apply Fnd.there))))
  · skip
    have hik : i = k := by have := of_decide_eq_false hb11; omega
    subst hik
    refine cw_exit ?_
    refine kw_code (fun _ _ h => h) ?_
    refine cw_seq ?_
    refine cw_region ?_
    refine ow_y (y_move rfl) ?_
    refine ow_y (y_assign rfl) ?_
    refine ow_nil ?_
    refine kw_code (fun _ _ h => h) ?_
    refine cw_retG (fun _ _ h => h) rfl rfl (by repeat (first | exact Split.nil | apply Split.cons (by repeat (first | exact Fnd.here | apply Fnd.there))))
theorem refBytes_spec (kind id at_ n : Nat) (data : ByteArray) (hk : kind < 256) (hid : id < 4294967296) (ha : at_ < 65536) (hn : n < 65536) (hd : data.size ≤ 1000) :
    Does Try.prog 31 #[.agg (rpC kind id at_ n data).toArray] [] (Gives (.string (bs (opB kind id at_ n data.data.toList))) []) := by
  have w1 : IntKind.u64.wrap (kind : Int) = (kind : Int) := wrap_u64 _ _ rfl (by omega)
  have w2 : IntKind.u64.wrap (id : Int) = (id : Int) := wrap_u64 _ _ rfl (by omega)
  have w3 : IntKind.u64.wrap (at_ : Int) = (at_ : Int) := wrap_u64 _ _ rfl (by omega)
  have w4 : IntKind.u64.wrap (n : Int) = (n : Int) := wrap_u64 _ _ rfl (by omega)
  have hadd : ∀ a b : List UInt8, bs a ++ bs b = bs (a ++ b) := fun a b => ba_ext (by simp)
  have hdat : ∀ a : List UInt8, bs a ++ data = bs (a ++ data.data.toList) := fun a => ba_ext (by simp)
  have z1 : ∀ x k m, (bs (beB x k m)).size = m := fun x k m => by rw [bs_size, beB_len]
  refine does_enter Try.func31 rfl Try.ntmps31 rfl (fun R w0 => ?_)
  simp only [envOf, List.cons_append, List.nil_append, rpC]
  refine cw_seq ?_
  refine cw_region ?_
  refine (ow_box rfl (fun b1 => ?_))
  refine ow_y (y_assign rfl) ?_
  refine ow_nil ?_
  refine kw_code (fun _ _ h => h) ?_
  refine cw_seq ?_
  refine cw_mix (.soft 0 (.soft 1 (.soft 2 (.soft 4 (.soft 5 (.soft 6 (.soft 9 (.soft 10 (.soft 11 (.soft 14 (.soft 15 (.soft 16 (.soft 19 (.soft 20 (.hard 3 (.hard 7 (.soft 8 (.hard 12 (.soft 13 (.hard 17 (.soft 18 (.soft 21 (.soft 22 .done))))))))))))))))))))))) [pts b1 (.cells #[.int .i64 kind, .int .i64 id, .int .i64 at_, .int .i64 n, .string data] 53 (0, 0))] F.fol (by kernel_rfl) (by repeat (first | with_reducible exact NoSlots.bp | with_reducible apply NoSlots.then | with_reducible apply NoSlots.inBlock)) (by repeat (first | exact Split.nil | apply Split.cons (by repeat (first | exact Fnd.here | apply Fnd.there)))) ?_
  refine om_y rfl (y_fld F.fld53_0 rfl) ?_
  refine om_y rfl (y_load F.sc3 rfl (by rfl)) ?_
  refine om_y rfl (y_conv F.ts3 F.in72 rfl) ?_
  refine om_y rfl (y_fld F.fld53_1 rfl) ?_
  refine om_y rfl (y_load F.sc3 rfl (by rfl)) ?_
  refine om_y rfl (y_conv F.ts3 F.in72 rfl) ?_
  refine om_y rfl (y_fld F.fld53_2 rfl) ?_
  refine om_y rfl (y_load F.sc3 rfl (by rfl)) ?_
  refine om_y rfl (y_conv F.ts3 F.in72 rfl) ?_
  refine om_y rfl (y_fld F.fld53_3 rfl) ?_
  refine om_y rfl (y_load F.sc3 rfl (by rfl)) ?_
  refine om_y rfl (y_conv F.ts3 F.in72 rfl) ?_
  refine om_y rfl (y_fld F.fld53_4 rfl) ?_
  refine om_y rfl (y_load F.sc9 rfl (by rfl)) ?_
  refine om_h rfl ?_
  simp only [w1, w2, w3, w4]
  refine ow_gives rfl F.hb44 rfl (rnum_spec kind 1 (by omega) (by omega)) (by repeat (first | exact Split.nil | apply Split.cons (by repeat (first | exact Fnd.here | apply Fnd.there)))) ?_
  simp only [List.cons_append, List.nil_append]
  refine ow_nil ?_
  refine om_next (by repeat (first | exact Split.nil | apply Split.cons (by repeat (first | exact Fnd.here | apply Fnd.there)))) ?_
  refine om_h rfl ?_
  refine ow_gives rfl F.hb44 rfl (rnum_spec id 4 (by omega) (by omega)) (by repeat (first | exact Split.nil | apply Split.cons (by repeat (first | exact Fnd.here | apply Fnd.there)))) ?_
  simp only [List.cons_append, List.nil_append]
  refine ow_nil ?_
  refine om_next (by repeat (first | exact Split.nil | apply Split.cons (by repeat (first | exact Fnd.here | apply Fnd.there)))) ?_
  refine om_y rfl (y_str_add rfl rfl (by rw [z1, z1]; omega)) ?_
  refine om_h rfl ?_
  refine ow_gives rfl F.hb44 rfl (rnum_spec at_ 2 (by omega) (by omega)) (by repeat (first | exact Split.nil | apply Split.cons (by repeat (first | exact Fnd.here | apply Fnd.there)))) ?_
  simp only [List.cons_append, List.nil_append]
  refine ow_nil ?_
  refine om_next (by repeat (first | exact Split.nil | apply Split.cons (by repeat (first | exact Fnd.here | apply Fnd.there)))) ?_
  refine om_y rfl (y_str_add rfl rfl (by rw [hadd, bs_size, List.length_append, z1, beB_len, beB_len]; omega)) ?_
  refine om_h rfl ?_
  refine ow_gives rfl F.hb44 rfl (rnum_spec n 2 (by omega) (by omega)) (by repeat (first | exact Split.nil | apply Split.cons (by repeat (first | exact Fnd.here | apply Fnd.there)))) ?_
  simp only [List.cons_append, List.nil_append]
  refine ow_nil ?_
  refine om_next (by repeat (first | exact Split.nil | apply Split.cons (by repeat (first | exact Fnd.here | apply Fnd.there)))) ?_
  refine om_y rfl (y_str_add rfl rfl (by rw [hadd, hadd, bs_size, List.length_append, List.length_append, z1, beB_len, beB_len, beB_len]; omega)) ?_
  refine om_y rfl (y_str_add rfl rfl (by rw [hadd, hadd, hadd, bs_size, List.length_append, List.length_append, List.length_append, beB_len, beB_len, beB_len, beB_len]; omega)) ?_
  refine om_y rfl (y_assign rfl) ?_
  refine om_nil ?_
  refine kw_code (fun _ _ h => h) ?_
  refine cw_retG (fun _ _ h => h) rfl (by congr 1 <;> exact ba_ext (by simp [opB])) (by repeat (first | exact Split.nil | apply Split.cons (by repeat (first | exact Fnd.here | apply Fnd.there))))
end Go.Proofs.Ytofffddcbjkdcaa
