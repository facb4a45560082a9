/- Part of the proof; no statement of its own: P9. -/
import Derived.Test.YtofffddcbjkdcaaP8
import Derived.Test.YtofffddcbjkdcaaC3
set_option linter.all false
namespace Go.Proofs.Ytofffddcbjkdcaa
open Go.Sl
theorem be_append (a : List UInt8) : ∀ (b : List UInt8), be (a ++ b) = be a * 256 ^ b.length + be b := by
  have key : ∀ (b : List UInt8) (n : Nat), b.foldl (fun n c => n * 256 + c.toNat) n = n * 256 ^ b.length + be b := by
    intro b
    induction b with
    | nil => intro n; simp [be]
    | cons c b ih =>
      intro n
      have h0 := ih (n * 256 + c.toNat)
      have h1 := ih (0 * 256 + c.toNat)
      simp only [be, List.foldl_cons, List.length_cons] at h0 h1 ⊢
      rw [h0, h1, Nat.pow_succ, Nat.add_mul, Nat.zero_mul, Nat.zero_add, Nat.mul_assoc, Nat.mul_comm 256 (256 ^ b.length)]
      omega
  intro b
  simp only [be, List.foldl_append]
  exact key b _
theorem beB_be (l : List UInt8) (k : Nat) (hk : l.length = k) : ∀ m, m ≤ k → beB (be l) k m = l.take m := by
  intro m
  induction m with
  | zero => intro _; rfl
  | succ m ih =>
    intro hm
    have hml : m < l.length := by omega
    simp only [beB, ih (by omega)]
    rw [List.take_succ, List.getElem?_eq_getElem hml]
    congr 1
    simp only [Option.toList]
    congr 1
    have e1 : be l = be (l.take (m + 1)) * 256 ^ (k - 1 - m) + be (l.drop (m + 1)) := by
      have := be_append (l.take (m + 1)) (l.drop (m + 1))
      rw [List.take_append_drop] at this
      rw [this]
      congr 3
      simp; omega
    have e2 : be (l.drop (m + 1)) < 256 ^ (k - 1 - m) := by
      have := be_lt (l.drop (m + 1))
      rwa [show (l.drop (m + 1)).length = k - 1 - m by simp; omega] at this
    have e3 : be l / 256 ^ (k - 1 - m) = be (l.take (m + 1)) := by
      rw [e1, Nat.add_comm, Nat.add_mul_div_right _ _ (Nat.pow_pos (by decide)), Nat.div_eq_of_lt e2, Nat.zero_add]
    rw [e3, be_take l m hml]
    apply UInt8.toNat_inj.1
    rw [UInt8.toNat_ofNat']
    have := (l[m]).toNat_lt
    omega
theorem opB_parse (l : List UInt8) (h9 : 9 ≤ l.length) : opB (be (l.take 1)) (be ((l.drop 1).take 4)) (be ((l.drop 5).take 2)) (be ((l.drop 7).take 2)) (l.drop 9) = l := by
  have t : ∀ (i k : Nat), i + k ≤ l.length → beB (be ((l.drop i).take k)) k k = (l.drop i).take k := fun i k h => by
    have hl : ((l.drop i).take k).length = k := by simp; omega
    rw [beB_be _ k hl k (Nat.le_refl _), List.take_of_length_le (by omega)]
  have t0 := t 0 1 (by omega)
  rw [List.drop_zero] at t0
  simp only [opB, t0, t 1 4 (by omega), t 5 2 (by omega), t 7 2 (by omega)]
  have e : ∀ i k, (l.drop i).take k ++ l.drop (i + k) = l.drop i := fun i k => by rw [← List.drop_drop, List.take_append_drop]
  rw [List.append_assoc, List.append_assoc, List.append_assoc, e 7 2, e 5 2, e 1 4, List.take_append_drop]
theorem told_spec (kind id at_ n : Nat) (data : ByteArray) (hid : id < 4294967296) : Does Try.prog 32 #[.agg (opC kind id at_ n data).toArray] [] (Gives (.agg (rpC kind id at_ n data).toArray) []) := by
  have w2 : IntKind.i64.wrap (id : Int) = (id : Int) := wrap_sm _ _ (by omega) (by simp only [IntKind.bits]; omega)
  refine does_enter Try.func32 rfl Try.ntmps32 rfl (fun R w0 => ?_)
  simp only [envOf, List.cons_append, List.nil_append, opC]
  refine cw_seq ?_
  refine cw_region ?_
  refine (ow_box rfl (fun b1 => ?_))
  refine (ow_alloc F.z53 (fun b2 => ?_))
  refine ow_nil ?_
  refine kw_code (fun _ _ h => h) ?_
  refine cw_seq ?_
  refine cw_region ?_
  refine ow_y (y_fld F.fld46_0 rfl) ?_
  refine ow_y (y_load F.sc3 rfl (by rfl)) ?_
  refine ow_y (y_fld F.fld46_1 rfl) ?_
  refine ow_y (y_load F.sc24 rfl (by rfl)) ?_
  refine ow_y (y_conv F.ts24 F.in3 rfl) ?_
  refine ow_y (y_fld F.fld46_2 rfl) ?_
  refine ow_y (y_load F.sc3 rfl (by rfl)) ?_
  refine ow_y (y_fld F.fld46_3 rfl) ?_
  refine ow_y (y_load F.sc3 rfl (by rfl)) ?_
  refine ow_y (y_fld F.fld46_4 rfl) ?_
  refine ow_y (y_load F.sc9 rfl (by rfl)) ?_
  rw [w2]
  refine ow_y (y_build F.pl53 rfl (by simp [fillL, nth, Value.cells] <;> rfl)) ?_
  refine (ow_storeAgg F.sz53 rfl rfl (by first | rfl | simp) (by simp [Value.oneCell']) (by simp [Value.cells]) (by simp [splice, Value.cells] <;> rfl) ?_)
  refine ow_nil ?_
  refine kw_code (fun _ _ h => h) ?_
  refine cw_retGC (fun _ _ h => h) (RV.agg F.ag53 rfl (by simp) (by rfl) RV.nil) rfl (by repeat (first | exact Split.nil | apply Split.cons (by repeat (first | exact Fnd.here | apply Fnd.there))))
theorem redoAwake_spec : Does Try.prog 28 #[] [] (Gives (.bool true) []) := by
  have hp : Does Try.prog 30 #[.string ⟨#[8, 0, 0, 0, 0, 0, 0, 0, 0]⟩] [] (Gives (.tuple #[.agg #[.int .i64 0, .int .u32 0, .int .i64 0, .int .i64 0, .string ByteArray.empty], .int .i64 15]) []) := lparse_spec [8, 0, 0, 0, 0, 0, 0, 0, 0] (by decide)
  have hb : Does Try.prog 29 #[.agg #[.int .i64 4, .int .u32 3, .int .i64 0, .int .i64 0, .string ByteArray.empty]] [] (Gives (.string (bs [4, 0, 0, 0, 3, 0, 0, 0, 0])) []) := opBytes_spec 4 3 0 0 ByteArray.empty (by decide) (by decide) (by decide) (by decide) (by decide)
  refine does_enter Try.func28 rfl Try.ntmps28 rfl (fun R w0 => ?_)
  simp only [envOf, List.cons_append, List.nil_append]
  refine cw_seq ?_
  refine cw_region ?_
  refine ow_y (y_assign rfl) ?_
  refine ow_nil ?_
  refine kw_code (fun _ _ h => h) ?_
  refine cw_seq ?_
  refine cw_region ?_
  refine ow_gives rfl F.hb30 rfl (hp) (by repeat (first | exact Split.nil | apply Split.cons (by repeat (first | exact Fnd.here | apply Fnd.there)))) ?_
  simp only [List.cons_append, List.nil_append]
  refine ow_y (y_move rfl) ?_
  refine ow_y (y_ext rfl rfl) ?_
  refine ow_y (y_ext rfl rfl) ?_
  refine (ow_alloc F.z46 (fun b1 => ?_))
  refine (ow_storeAgg F.sz46 rfl rfl (by first | rfl | simp) (by simp [Value.oneCell']) (by simp [Value.cells]) (by simp [splice, Value.cells] <;> rfl) ?_)
  refine ow_y (y_assign rfl) ?_
  refine ow_nil ?_
  refine kw_code (fun _ _ h => h) ?_
  refine cw_seq ?_
  refine cw_region ?_
  refine ow_y (y_build F.pl46 rfl (by simp [fillL, nth, Value.cells] <;> rfl)) ?_
  refine ow_gives rfl F.hb29 rfl (hb) (by repeat (first | exact Split.nil | apply Split.cons (by repeat (first | exact Fnd.here | apply Fnd.there)))) ?_
  simp only [List.cons_append, List.nil_append]
  refine ow_y (y_str_eql rfl rfl) ?_
  refine ow_y (y_move rfl) ?_
  refine ow_yg (y_move rfl) (fun a w hh => (want_of rfl rfl rfl hh).trans (wTT (beq_self_eq_true _))) ?_
  refine ow_yg (y_eql rfl rfl) (fun a w hh => (want_of rfl rfl rfl hh).trans (wTT (beq_self_eq_true _))) ?_
  refine ow_y (y_pickT rfl (beq_self_eq_true _) rfl) ?_
  refine ow_y (y_assign rfl) ?_
  refine ow_nil ?_
  refine kw_code (fun _ _ h => h) ?_
  refine cw_retG (fun _ _ h => h) rfl rfl (by repeat (first | exact Split.nil | apply Split.cons (by repeat (first | exact Fnd.here | apply Fnd.there))))
end Go.Proofs.Ytofffddcbjkdcaa
