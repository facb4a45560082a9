/- Part of the proof; no statement of its own: P12. -/
import Derived.Test.YtofffddcbjkdcaaP11
set_option linter.all false
namespace Go.Proofs.Ytofffddcbjkdcaa
open Go.Sl
theorem and_65535 (x : Int) : bits .and .i64 x 65535 = x % 65536 := and_mask .i64 16 (.inr ⟨by decide, by decide⟩) 65535 (by decide) x
theorem be_beB (x : Nat) : ∀ k, be (beB x k k) = x % 256 ^ k := by
  intro k
  induction k with
  | zero => simp [beB, be, Nat.mod_one]
  | succ k ih =>
    rw [beB_front x k k (Nat.le_refl _)]
    have h := be_append [UInt8.ofNat (x / 256 ^ k)] (beB x k k)
    rw [List.singleton_append, beB_len, ih] at h
    rw [h, Nat.mod_pow_succ]
    have e : be [UInt8.ofNat (x / 256 ^ k)] = x / 256 ^ k % 256 := by simp [be]
    rw [e, Nat.mul_comm]; omega
theorem opB_take (kind id at_ n : Nat) (d : List UInt8) : (opB kind id at_ n d).take 1 = beB kind 1 1 ∧ ((opB kind id at_ n d).drop 1).take 4 = beB id 4 4 ∧ ((opB kind id at_ n d).drop 5).take 2 = beB at_ 2 2 ∧ ((opB kind id at_ n d).drop 7).take 2 = beB n 2 2 ∧ (opB kind id at_ n d).drop 9 = d := by
  have l1 := beB_len kind 1 1
  have l2 := beB_len id 4 4
  have l3 := beB_len at_ 2 2
  have l4 := beB_len n 2 2
  unfold opB
  generalize beB kind 1 1 = A at *
  generalize beB id 4 4 = B at *
  generalize beB at_ 2 2 = C at *
  generalize beB n 2 2 = D at *
  match A, l1, B, l2, C, l3, D, l4 with
  | [a], _, [b1, b2, b3, b4], _, [c1, c2], _, [d1, d2], _ => exact ⟨rfl, rfl, rfl, rfl, rfl⟩
theorem opB_len (kind id at_ n : Nat) (d : List UInt8) : (opB kind id at_ n d).length = 9 + d.length := by simp [opB, beB_len]; omega
theorem errL_opB (kind id at_ n : Nat) (d : List UInt8) (hk : kind < 256) : errL (opB kind id at_ n d) = if 1 ≤ kind ∧ kind ≤ 7 then 0 else 15 := by
  unfold errL
  rw [if_neg (by rw [opB_len]; omega), (opB_take kind id at_ n d).1, be_beB, Nat.mod_eq_of_lt (by simpa using hk)]
theorem resC_opB (kind id at_ n : Nat) (d : List UInt8) (hk : 1 ≤ kind ∧ kind ≤ 7) (hid : id < 4294967296) (ha : at_ < 65536) (hn : n < 65536) : resC (opB kind id at_ n d) = opC kind id at_ n (bs d) := by
  obtain ⟨t1, t2, t3, t4, t5⟩ := opB_take kind id at_ n d
  unfold resC
  rw [errL_opB _ _ _ _ _ (by omega), if_pos hk, if_pos rfl, t1, t2, t3, t4, t5, be_beB, be_beB, be_beB, be_beB, Nat.mod_eq_of_lt (by omega), Nat.mod_eq_of_lt (by omega), Nat.mod_eq_of_lt (by omega), Nat.mod_eq_of_lt (by omega)]
theorem resC_bad (kind id at_ n : Nat) (d : List UInt8) (hk8 : kind < 256) (hk : ¬ (1 ≤ kind ∧ kind ≤ 7)) : resC (opB kind id at_ n d) = opC 0 0 0 0 ByteArray.empty := by
  unfold resC
  rw [errL_opB _ _ _ _ _ hk8, if_neg hk, if_neg (by decide)]
theorem eqK_op (kind id at_ n : Nat) (d : ByteArray) : eqK [0, 0, 0, 0, 1] (opC kind id at_ n d) (opC kind id at_ n d) = some true := by
  simp [opC, eqK]
theorem redoBytes_walk (W : World) (k_ : Int) (_ : (Lit.int .i64 k_).wf = true) (id_ : Int) (hid_ : (Lit.int .u32 id_).wf = true) (a_ : Int) (_ : (Lit.int .i64 a_).wf = true) (n_ : Int) (_ : (Lit.int .i64 n_).wf = true) (s_ : ByteArray) (hs_ : s_.size ≤ maxLen) :
    Does Try.prog 9 #[.int .i64 k_, .int .u32 id_, .int .i64 a_, .int .i64 n_, .string s_] [whole W] (Gives (.bool true) [whole W]) := by
  have hc := cut_spec s_ 200 hs_
  have hl : (cutS s_ 200).size ≤ 200 := by
    unfold cutS; split
    · rw [ByteArray.size_extract]; omega
    · omega
  generalize cutS s_ 200 = s at hc hl
  obtain ⟨l, rfl⟩ := ex_bs s
  have hl0 := hl
  rw [bs_size] at hl
  obtain ⟨k, hk, hk2⟩ : ∃ k : Nat, k_ % 256 = k ∧ k < 256 := ⟨(k_ % 256).toNat, by omega, by omega⟩
  obtain ⟨a, ha, ha2⟩ : ∃ k : Nat, a_ % 65536 = k ∧ k < 65536 := ⟨(a_ % 65536).toNat, by omega, by omega⟩
  obtain ⟨n, hn, hn2⟩ : ∃ k : Nat, n_ % 65536 = k ∧ k < 65536 := ⟨(n_ % 65536).toNat, by omega, by omega⟩
  obtain ⟨id, rfl, hid2⟩ : ∃ k : Nat, id_ = k ∧ k < 4294967296 := by
    simp only [Lit.wf, IntKind.min, IntKind.max, IntKind.signed, IntKind.bits, Bool.and_eq_true, decide_eq_true_eq] at hid_
    simp at hid_
    exact ⟨id_.toNat, by omega, by omega⟩
  have hB := opBytes_spec k id a n (bs l) hk2 hid2 ha2 hn2 (by omega)
  have hT := told_spec k id a n (bs l) hid2
  have hR := refBytes_spec k id a n (bs l) hk2 hid2 ha2 hn2 (by omega)
  rw [bs_list] at hB hR
  have hP := lparse_spec (opB k id a n l) (by rw [opB_len]; omega)
  rw [errL_opB _ _ _ _ _ hk2] at hP
  by_cases hkk : 1 ≤ k ∧ k ≤ 7
  · rw [if_pos hkk, resC_opB _ _ _ _ _ hkk hid2 ha2 hn2] at hP
    refine does_enter Try.func9 rfl Try.ntmps9 rfl (fun R w0 => ?_)
    simp only [envOf, List.cons_append, List.nil_append]
    refine cw_seq ?_
    refine cw_region ?_
    refine ow_y (y_assign rfl) ?_
    refine ow_nil ?_
    refine kw_code (fun _ _ h => h) ?_
    refine cw_seq ?_
    refine cw_seq ?_
    refine cw_region ?_
    refine ow_gives rfl F.hb28 rfl (redoAwake_spec) (by repeat (first | exact Split.nil | apply Split.cons (by repeat (first | exact Fnd.here | apply Fnd.there)))) ?_
    simp only [List.cons_append, List.nil_append]
    refine ow_y (y_not rfl) ?_
    refine ow_nil ?_
    refine kw_code (fun _ _ h => h) ?_
    refine cw_false rfl (by first | rfl | exact decide_eq_false (by omega)) ?_
    refine cw_skip ?_
    refine kw_code (fun _ _ h => h) ?_
    refine cw_seq ?_
    refine cw_region ?_
    refine ow_y (y_move rfl) ?_
    refine ow_y (y_and rfl rfl) ?_
    refine ow_y (y_move rfl) ?_
    refine ow_y (y_move rfl) ?_
    refine ow_y (y_and rfl rfl) ?_
    refine ow_y (y_move rfl) ?_
    refine ow_y (y_and rfl rfl) ?_
    refine ow_y (y_move rfl) ?_
    refine ow_gives rfl F.hb11 rfl (hc) (by repeat (first | exact Split.nil | apply Split.cons (by repeat (first | exact Fnd.here | apply Fnd.there)))) ?_
    simp only [List.cons_append, List.nil_append]
    rw [and_255 .i64 (by decide), hk, and_65535 a_, ha, and_65535 n_, hn]
    refine ow_y (y_build F.pl46 rfl (by simp [fillL, nth, Value.cells] <;> rfl)) ?_
    refine (ow_alloc F.z46 (fun b11 => ?_))
    refine (ow_storeAgg F.sz46 rfl rfl (by first | rfl | simp) (by simp [Value.oneCell']) (by simp [Value.cells]) (by simp [splice, Value.cells] <;> rfl) ?_)
    refine ow_nil ?_
    refine kw_code (fun _ _ h => h) ?_
    refine cw_seq ?_
    refine cw_region ?_
    refine ow_y (y_loadAgg F.ag46 rfl (by simp) (by rfl)) ?_
    refine ow_gives rfl F.hb29 rfl (hB) (by repeat (first | exact Split.nil | apply Split.cons (by repeat (first | exact Fnd.here | apply Fnd.there)))) ?_
    simp only [List.cons_append, List.nil_append]
    refine ow_y (y_assign rfl) ?_
    refine ow_nil ?_
    refine kw_code (fun _ _ h => h) ?_
    refine cw_seq ?_
    refine cw_region ?_
    refine ow_y (y_move rfl) ?_
    refine ow_gives rfl F.hb30 rfl (hP) (by repeat (first | exact Split.nil | apply Split.cons (by repeat (first | exact Fnd.here | apply Fnd.there)))) ?_
    simp only [List.cons_append, List.nil_append]
    refine ow_y (y_move rfl) ?_
    refine ow_y (y_ext rfl rfl) ?_
    refine ow_y (y_ext rfl rfl) ?_
    refine (ow_alloc F.z46 (fun b13 => ?_))
    refine ow_storeAgg F.sz46 rfl rfl (by simp [opC]) (by simp [opC, Value.oneCell']) (by simp [opC, Value.cells]) (splice_all (by simp [opC, Value.cells])) ?_
    refine ow_y (y_assign rfl) ?_
    refine ow_nil ?_
    refine kw_code (fun _ _ h => h) ?_
    refine cw_seq ?_
    refine cw_seq ?_
    refine cw_region ?_
    refine ow_y (y_move rfl) ?_
    refine ow_y (y_loadAgg F.ag46 rfl (by simp) (by rfl)) ?_
    refine ow_gives rfl F.hb32 rfl (hT) (by repeat (first | exact Split.nil | apply Split.cons (by repeat (first | exact Fnd.here | apply Fnd.there)))) ?_
    simp only [List.cons_append, List.nil_append]
    refine ow_gives rfl F.hb31 rfl (hR) (by repeat (first | exact Split.nil | apply Split.cons (by repeat (first | exact Fnd.here | apply Fnd.there)))) ?_
    simp only [List.cons_append, List.nil_append]
    refine ow_y (y_str_neq rfl rfl) ?_
    refine ow_nil ?_
    refine kw_code (fun _ _ h => h) ?_
    refine cw_false rfl (by simp) ?_
    refine cw_skip ?_
    refine kw_code (fun _ _ h => h) ?_
    refine cw_seq ?_
    refine cw_seq ?_
    refine cw_region ?_
    refine ow_y (y_fld F.fld46_0 rfl) ?_
    refine ow_y (y_load F.sc3 rfl (by rfl)) ?_
    refine ow_y (y_lss rfl rfl) ?_
    refine ow_y (y_move rfl) ?_
    refine ow_yg (y_fld F.fld46_0 rfl) (fun a w hh => (want_of rfl rfl rfl hh).trans (wFF (by first | rfl | exact decide_eq_false (by omega)))) ?_
    refine ow_yg (y_load F.sc3 rfl (by rfl)) (fun a w hh => (want_of rfl rfl rfl hh).trans (wFF (by first | rfl | exact decide_eq_false (by omega)))) ?_
    refine ow_yg (y_gtr rfl rfl) (fun a w hh => (want_of rfl rfl rfl hh).trans (wFF (by first | rfl | exact decide_eq_false (by omega)))) ?_
    refine ow_y (y_pickF rfl (by first | rfl | exact decide_eq_false (by omega)) rfl) ?_
    refine ow_nil ?_
    refine kw_code (fun _ _ h => h) ?_
    refine cw_false rfl (by first | rfl | exact decide_eq_false (by omega)) ?_
    refine cw_skip ?_
    refine kw_code (fun _ _ h => h) ?_
    refine cw_seq ?_
    refine cw_region ?_
    refine ow_y (y_move rfl) ?_
    refine ow_y (y_eql rfl rfl) ?_
    refine ow_y (y_move rfl) ?_
    refine ow_yg (y_loadAgg F.ag46 rfl (by simp [opC]) (extract_all (by simp [opC]))) (fun a w hh => (want_of rfl rfl rfl hh).trans (wTT (by first | rfl | exact decide_eq_true (by omega)))) ?_
    refine ow_yg (y_loadAgg F.ag46 rfl (by simp [opC]) (extract_all (by simp [opC]))) (fun a w hh => (want_of rfl rfl rfl hh).trans (wTT (by first | rfl | exact decide_eq_true (by omega)))) ?_
    refine ow_yg (y_struct_eql F.fk46 rfl rfl (eqK_op k id a n (bs l))) (fun a w hh => (want_of rfl rfl rfl hh).trans (wTT (by first | rfl | exact decide_eq_true (by omega)))) ?_
    refine ow_y (y_pickT rfl (by first | rfl | exact decide_eq_true (by omega)) rfl) ?_
    refine ow_y (y_assign rfl) ?_
    refine ow_nil ?_
    refine kw_code (fun _ _ h => h) ?_
    refine cw_retG (fun _ _ h => h) rfl rfl (by repeat (first | exact Split.nil | apply Split.cons (by repeat (first | exact Fnd.here | apply Fnd.there))))
  · rw [if_neg hkk, resC_bad _ _ _ _ _ hk2 hkk] at hP
    by_cases hk0 : k < 1
    · skip
      refine does_enter Try.func9 rfl Try.ntmps9 rfl (fun R w0 => ?_)
      simp only [envOf, List.cons_append, List.nil_append]
      refine cw_seq ?_
      refine cw_region ?_
      refine ow_y (y_assign rfl) ?_
      refine ow_nil ?_
      refine kw_code (fun _ _ h => h) ?_
      refine cw_seq ?_
      refine cw_seq ?_
      refine cw_region ?_
      refine ow_gives rfl F.hb28 rfl (redoAwake_spec) (by repeat (first | exact Split.nil | apply Split.cons (by repeat (first | exact Fnd.here | apply Fnd.there)))) ?_
      simp only [List.cons_append, List.nil_append]
      refine ow_y (y_not rfl) ?_
      refine ow_nil ?_
      refine kw_code (fun _ _ h => h) ?_
      refine cw_false rfl (by first | rfl | exact decide_eq_false (by omega)) ?_
      refine cw_skip ?_
      refine kw_code (fun _ _ h => h) ?_
      refine cw_seq ?_
      refine cw_region ?_
      refine ow_y (y_move rfl) ?_
      refine ow_y (y_and rfl rfl) ?_
      refine ow_y (y_move rfl) ?_
      refine ow_y (y_move rfl) ?_
      refine ow_y (y_and rfl rfl) ?_
      refine ow_y (y_move rfl) ?_
      refine ow_y (y_and rfl rfl) ?_
      refine ow_y (y_move rfl) ?_
      refine ow_gives rfl F.hb11 rfl (hc) (by repeat (first | exact Split.nil | apply Split.cons (by repeat (first | exact Fnd.here | apply Fnd.there)))) ?_
      simp only [List.cons_append, List.nil_append]
      rw [and_255 .i64 (by decide), hk, and_65535 a_, ha, and_65535 n_, hn]
      refine ow_y (y_build F.pl46 rfl (by simp [fillL, nth, Value.cells] <;> rfl)) ?_
      refine (ow_alloc F.z46 (fun b11 => ?_))
      refine (ow_storeAgg F.sz46 rfl rfl (by first | rfl | simp) (by simp [Value.oneCell']) (by simp [Value.cells]) (by simp [splice, Value.cells] <;> rfl) ?_)
      refine ow_nil ?_
      refine kw_code (fun _ _ h => h) ?_
      refine cw_seq ?_
      refine cw_region ?_
      refine ow_y (y_loadAgg F.ag46 rfl (by simp) (by rfl)) ?_
      refine ow_gives rfl F.hb29 rfl (hB) (by repeat (first | exact Split.nil | apply Split.cons (by repeat (first | exact Fnd.here | apply Fnd.there)))) ?_
      simp only [List.cons_append, List.nil_append]
      refine ow_y (y_assign rfl) ?_
      refine ow_nil ?_
      refine kw_code (fun _ _ h => h) ?_
      refine cw_seq ?_
      refine cw_region ?_
      refine ow_y (y_move rfl) ?_
      refine ow_gives rfl F.hb30 rfl (hP) (by repeat (first | exact Split.nil | apply Split.cons (by repeat (first | exact Fnd.here | apply Fnd.there)))) ?_
      simp only [List.cons_append, List.nil_append]
      refine ow_y (y_move rfl) ?_
      refine ow_y (y_ext rfl rfl) ?_
      refine ow_y (y_ext rfl rfl) ?_
      refine (ow_alloc F.z46 (fun b13 => ?_))
      refine ow_storeAgg F.sz46 rfl rfl (by simp [opC]) (by simp [opC, Value.oneCell']) (by simp [opC, Value.cells]) (splice_all (by simp [opC, Value.cells])) ?_
      refine ow_y (y_assign rfl) ?_
      refine ow_nil ?_
      refine kw_code (fun _ _ h => h) ?_
      refine cw_seq ?_
      refine cw_seq ?_
      refine cw_region ?_
      refine ow_y (y_move rfl) ?_
      refine ow_y (y_loadAgg F.ag46 rfl (by simp) (by rfl)) ?_
      refine ow_gives rfl F.hb32 rfl (hT) (by repeat (first | exact Split.nil | apply Split.cons (by repeat (first | exact Fnd.here | apply Fnd.there)))) ?_
      simp only [List.cons_append, List.nil_append]
      refine ow_gives rfl F.hb31 rfl (hR) (by repeat (first | exact Split.nil | apply Split.cons (by repeat (first | exact Fnd.here | apply Fnd.there)))) ?_
      simp only [List.cons_append, List.nil_append]
      refine ow_y (y_str_neq rfl rfl) ?_
      refine ow_nil ?_
      refine kw_code (fun _ _ h => h) ?_
      refine cw_false rfl (by simp) ?_
      refine cw_skip ?_
      refine kw_code (fun _ _ h => h) ?_
      refine cw_seq ?_
      refine cw_seq ?_
      refine cw_region ?_
      refine ow_y (y_fld F.fld46_0 rfl) ?_
      refine ow_y (y_load F.sc3 rfl (by rfl)) ?_
      refine ow_y (y_lss rfl rfl) ?_
      refine ow_y (y_move rfl) ?_
      refine ow_skip rfl (fun a w hh => (want_of rfl rfl rfl hh).trans (wFT (by first | rfl | exact decide_eq_true (by omega)))) ?_
      refine ow_skip rfl (fun a w hh => (want_of rfl rfl rfl hh).trans (wFT (by first | rfl | exact decide_eq_true (by omega)))) ?_
      refine ow_skip rfl (fun a w hh => (want_of rfl rfl rfl hh).trans (wFT (by first | rfl | exact decide_eq_true (by omega)))) ?_
      refine ow_y (y_pickT rfl (by first | rfl | exact decide_eq_true (by omega)) rfl) ?_
      refine ow_nil ?_
      refine kw_code (fun _ _ h => h) ?_
      refine cw_true rfl (by first | rfl | exact decide_eq_true (by omega)) ?_
      refine cw_seq ?_
      refine cw_region ?_
      refine ow_y (y_move rfl) ?_
      refine ow_y (y_eql rfl rfl) ?_
      refine ow_y (y_move rfl) ?_
      refine ow_yg (y_loadAgg F.ag46 rfl (by simp [opC]) (extract_all (by simp [opC]))) (fun a w hh => (want_of rfl rfl rfl hh).trans (wTT (by first | rfl | exact decide_eq_true (by omega)))) ?_
      refine ow_yg (y_build F.pl46 rfl (by simp [fillL, nth, Value.cells] <;> rfl)) (fun a w hh => (want_of rfl rfl rfl hh).trans (wTT (by first | rfl | exact decide_eq_true (by omega)))) ?_
      refine ow_yg (y_struct_eql F.fk46 rfl rfl (eqK_op 0 0 0 0 ByteArray.empty)) (fun a w hh => (want_of rfl rfl rfl hh).trans (wTT (by first | rfl | exact decide_eq_true (by omega)))) ?_
      refine ow_y (y_pickT rfl (by first | rfl | exact decide_eq_true (by omega)) rfl) ?_
      refine ow_y (y_assign rfl) ?_
      refine ow_nil ?_
      refine kw_code (fun _ _ h => h) ?_
      refine cw_retG (fun _ _ h => h) rfl rfl (by repeat (first | exact Split.nil | apply Split.cons (by repeat (first | exact Fnd.here | apply Fnd.there))))
    · skip
      refine does_enter Try.func9 rfl Try.ntmps9 rfl (fun R w0 => ?_)
      simp only [envOf, List.cons_append, List.nil_append]
      refine cw_seq ?_
      refine cw_region ?_
      refine ow_y (y_assign rfl) ?_
      refine ow_nil ?_
      refine kw_code (fun _ _ h => h) ?_
      refine cw_seq ?_
      refine cw_seq ?_
      refine cw_region ?_
      refine ow_gives rfl F.hb28 rfl (redoAwake_spec) (by repeat (first | exact Split.nil | apply Split.cons (by repeat (first | exact Fnd.here | apply Fnd.there)))) ?_
      simp only [List.cons_append, List.nil_append]
      refine ow_y (y_not rfl) ?_
      refine ow_nil ?_
      refine kw_code (fun _ _ h => h) ?_
      refine cw_false rfl (by first | rfl | exact decide_eq_false (by omega)) ?_
      refine cw_skip ?_
      refine kw_code (fun _ _ h => h) ?_
      refine cw_seq ?_
      refine cw_region ?_
      refine ow_y (y_move rfl) ?_
      refine ow_y (y_and rfl rfl) ?_
      refine ow_y (y_move rfl) ?_
      refine ow_y (y_move rfl) ?_
      refine ow_y (y_and rfl rfl) ?_
      refine ow_y (y_move rfl) ?_
      refine ow_y (y_and rfl rfl) ?_
      refine ow_y (y_move rfl) ?_
      refine ow_gives rfl F.hb11 rfl (hc) (by repeat (first | exact Split.nil | apply Split.cons (by repeat (first | exact Fnd.here | apply Fnd.there)))) ?_
      simp only [List.cons_append, List.nil_append]
      rw [and_255 .i64 (by decide), hk, and_65535 a_, ha, and_65535 n_, hn]
      refine ow_y (y_build F.pl46 rfl (by simp [fillL, nth, Value.cells] <;> rfl)) ?_
      refine (ow_alloc F.z46 (fun b11 => ?_))
      refine (ow_storeAgg F.sz46 rfl rfl (by first | rfl | simp) (by simp [Value.oneCell']) (by simp [Value.cells]) (by simp [splice, Value.cells] <;> rfl) ?_)
      refine ow_nil ?_
      refine kw_code (fun _ _ h => h) ?_
      refine cw_seq ?_
      refine cw_region ?_
      refine ow_y (y_loadAgg F.ag46 rfl (by simp) (by rfl)) ?_
      refine ow_gives rfl F.hb29 rfl (hB) (by repeat (first | exact Split.nil | apply Split.cons (by repeat (first | exact Fnd.here | apply Fnd.there)))) ?_
      simp only [List.cons_append, List.nil_append]
      refine ow_y (y_assign rfl) ?_
      refine ow_nil ?_
      refine kw_code (fun _ _ h => h) ?_
      refine cw_seq ?_
      refine cw_region ?_
      refine ow_y (y_move rfl) ?_
      refine ow_gives rfl F.hb30 rfl (hP) (by repeat (first | exact Split.nil | apply Split.cons (by repeat (first | exact Fnd.here | apply Fnd.there)))) ?_
      simp only [List.cons_append, List.nil_append]
      refine ow_y (y_move rfl) ?_
      refine ow_y (y_ext rfl rfl) ?_
      refine ow_y (y_ext rfl rfl) ?_
      refine (ow_alloc F.z46 (fun b13 => ?_))
      refine ow_storeAgg F.sz46 rfl rfl (by simp [opC]) (by simp [opC, Value.oneCell']) (by simp [opC, Value.cells]) (splice_all (by simp [opC, Value.cells])) ?_
      refine ow_y (y_assign rfl) ?_
      refine ow_nil ?_
      refine kw_code (fun _ _ h => h) ?_
      refine cw_seq ?_
      refine cw_seq ?_
      refine cw_region ?_
      refine ow_y (y_move rfl) ?_
      refine ow_y (y_loadAgg F.ag46 rfl (by simp) (by rfl)) ?_
      refine ow_gives rfl F.hb32 rfl (hT) (by repeat (first | exact Split.nil | apply Split.cons (by repeat (first | exact Fnd.here | apply Fnd.there)))) ?_
      simp only [List.cons_append, List.nil_append]
      refine ow_gives rfl F.hb31 rfl (hR) (by repeat (first | exact Split.nil | apply Split.cons (by repeat (first | exact Fnd.here | apply Fnd.there)))) ?_
      simp only [List.cons_append, List.nil_append]
      refine ow_y (y_str_neq rfl rfl) ?_
      refine ow_nil ?_
      refine kw_code (fun _ _ h => h) ?_
      refine cw_false rfl (by simp) ?_
      refine cw_skip ?_
      refine kw_code (fun _ _ h => h) ?_
      refine cw_seq ?_
      refine cw_seq ?_
      refine cw_region ?_
      refine ow_y (y_fld F.fld46_0 rfl) ?_
      refine ow_y (y_load F.sc3 rfl (by rfl)) ?_
      refine ow_y (y_lss rfl rfl) ?_
      refine ow_y (y_move rfl) ?_
      refine ow_yg (y_fld F.fld46_0 rfl) (fun a w hh => (want_of rfl rfl rfl hh).trans (wFF (by first | rfl | exact decide_eq_false (by omega)))) ?_
      refine ow_yg (y_load F.sc3 rfl (by rfl)) (fun a w hh => (want_of rfl rfl rfl hh).trans (wFF (by first | rfl | exact decide_eq_false (by omega)))) ?_
      refine ow_yg (y_gtr rfl rfl) (fun a w hh => (want_of rfl rfl rfl hh).trans (wFF (by first | rfl | exact decide_eq_false (by omega)))) ?_
      refine ow_y (y_pickF rfl (by first | rfl | exact decide_eq_false (by omega)) rfl) ?_
      refine ow_nil ?_
      refine kw_code (fun _ _ h => h) ?_
      refine cw_true rfl (by first | rfl | exact decide_eq_true (by omega)) ?_
      refine cw_seq ?_
      refine cw_region ?_
      refine ow_y (y_move rfl) ?_
      refine ow_y (y_eql rfl rfl) ?_
      refine ow_y (y_move rfl) ?_
      refine ow_yg (y_loadAgg F.ag46 rfl (by simp [opC]) (extract_all (by simp [opC]))) (fun a w hh => (want_of rfl rfl rfl hh).trans (wTT (by first | rfl | exact decide_eq_true (by omega)))) ?_
      refine ow_yg (y_build F.pl46 rfl (by simp [fillL, nth, Value.cells] <;> rfl)) (fun a w hh => (want_of rfl rfl rfl hh).trans (wTT (by first | rfl | exact decide_eq_true (by omega)))) ?_
      refine ow_yg (y_struct_eql F.fk46 rfl rfl (eqK_op 0 0 0 0 ByteArray.empty)) (fun a w hh => (want_of rfl rfl rfl hh).trans (wTT (by first | rfl | exact decide_eq_true (by omega)))) ?_
      refine ow_y (y_pickT rfl (by first | rfl | exact decide_eq_true (by omega)) rfl) ?_
      refine ow_y (y_assign rfl) ?_
      refine ow_nil ?_
      refine kw_code (fun _ _ h => h) ?_
      refine cw_retG (fun _ _ h => h) rfl rfl (by repeat (first | exact Split.nil | apply Split.cons (by repeat (first | exact Fnd.here | apply Fnd.there))))
end Go.Proofs.Ytofffddcbjkdcaa
