/- Part of the proof; no statement of its own: C1. -/
import Derived.Test.YtofffddcbjkdcaaR1Facts
import Derived.Test.YtofffddcbjkdcaaSlNum
import Derived.Test.YtofffddcbjkdcaaCrcMath
set_option linter.all false
namespace Go.Proofs.Ytofffddcbjkdcaa
open Go.Sl
theorem xor_u32 (a b : BitVec 32) : bits .xor .u32 (a.toNat : Int) (b.toNat : Int) = ((a ^^^ b).toNat : Int) := by
  simp only [bits, BitVec.ofInt_natCast, BitVec.ofNat_toNat, BitVec.setWidth_eq, IntKind.bits]
  rw [IntKind.wrap_u32]
  exact Int.emod_eq_of_lt (Int.natCast_nonneg _) (by have := (a ^^^ b).isLt; omega)
theorem and_u32 (a b : BitVec 32) : bits .and .u32 (a.toNat : Int) (b.toNat : Int) = ((a &&& b).toNat : Int) := by
  simp only [bits, BitVec.ofInt_natCast, BitVec.ofNat_toNat, BitVec.setWidth_eq, IntKind.bits]
  rw [IntKind.wrap_u32]
  exact Int.emod_eq_of_lt (Int.natCast_nonneg _) (by have := (a &&& b).isLt; omega)
def tabF (j : Nat) : Value := .int .u32 ((Crc.stpN 4 (BitVec.ofNat 32 j)).toNat : Int)
def tabL (i : Nat) : List Value := (List.range 16).map fun j => if j < i then tabF j else .int .u32 0
theorem tab_set (k : Nat) (hk : k < 16) (m : Nat) (hm : m = k) (v : Value) (hv : v = tabF k) : (tabL k).set m v = tabL (k + 1) := by
  subst hm; subst hv
  unfold tabL
  apply List.ext_getElem
  · simp
  · intro i h1 h2
    simp at h1
    rw [List.getElem_set]
    by_cases e : m = i
    · subst e; simp
    · simp [e]
      by_cases h : i < m
      · simp [h, show i < m + 1 by omega]
      · simp [h, show ¬ i < m + 1 by omega]
theorem tabL_one (k : Nat) : ∀ x ∈ tabL k, x.oneCell' = true := by
  intro x hx
  simp only [tabL, List.mem_map] at hx
  obtain ⟨j, _, rfl⟩ := hx
  split <;> rfl
theorem stp_walk (x : BitVec 32) : bits .xor .u32 ((x.toNat : Int) / 2 ^ Int.toNat 1) (bits .and .u32 2197175160 (IntKind.u32.wrap (0 - bits .and .u32 (x.toNat : Int) 1))) = ((Crc.stp x).toNat : Int) := by
  have h1 : bits .and .u32 (x.toNat : Int) 1 = ((x &&& 1#32).toNat : Int) := and_u32 x 1#32
  have h2 : ((x.toNat : Int) / (2 : Int) ^ Int.toNat 1) = ((x >>> 1).toNat : Int) := by simp [Nat.shiftRight_eq_div_pow]
  rw [h1, h2]
  have h0 : (x &&& 1#32).toNat = x.toNat % 2 := by rw [BitVec.toNat_and]; exact Nat.and_one_is_mod _
  have hb : x.getLsbD 0 = decide (x.toNat % 2 = 1) := by rw [BitVec.getLsbD, Nat.testBit_zero]
  rw [h0]
  rcases Nat.mod_two_eq_zero_or_one x.toNat with h | h
  · rw [h]
    have : bits .and .u32 2197175160 (IntKind.u32.wrap (0 - ((0 : Nat) : Int))) = ((0#32).toNat : Int) := by decide
    rw [this, xor_u32]; unfold Crc.stp; rw [hb]; simp [h]
  · rw [h]
    have : bits .and .u32 2197175160 (IntKind.u32.wrap (0 - ((1 : Nat) : Int))) = (Crc.poly.toNat : Int) := by decide
    rw [this, xor_u32]; unfold Crc.stp; rw [hb]; simp [h]
theorem stpN_succ (n : Nat) (x : BitVec 32) : Crc.stpN (n + 1) x = Crc.stp (Crc.stpN n x) := by
  rw [Crc.stpN_add]; rfl
theorem table_spec : Does Try.prog 34 #[] [] (Gives (.agg (tabL 16).toArray) []) := by
  refine does_enter Try.func34 rfl Try.ntmps34 rfl (fun R w0 => ?_)
  simp only [envOf, List.cons_append, List.nil_append]
  refine cw_seq ?_
  refine cw_region ?_
  refine (ow_alloc F.z60 (fun b0 => ?_))
  refine ow_nil ?_
  refine kw_code (fun _ _ h => h) ?_
  refine cw_seq ?_
  refine cw_region ?_
  refine (ow_alloc F.z60 (fun b1 => ?_))
  refine ow_nil ?_
  refine kw_code (fun _ _ h => h) ?_
  refine cw_seq ?_
  refine cw_seq ?_
  refine cw_region ?_
  refine ow_y (y_move rfl) ?_
  refine ow_nil ?_
  refine kw_code (fun _ _ h => h) ?_
  refine cw_block ?_
  refine cw_loop (X := {k : Nat // k ≤ 16}) (fun x => [(0, .pointer (some ⟨b0, 0, none⟩)), (1, .pointer (some ⟨b1, 0, none⟩)), (4, .int .i64 x.1)]) (fun x => [pts b1 (.cells (tabL x.1).toArray 60 (0, 0)), pts b0 (.cells (tabL 0).toArray 60 (0, 0)), R]) (fun x => 16 - x.1) ⟨0, by omega⟩ (by repeat (first | exact Sub.nil | refine Sub.cons rfl ?_)) (by repeat (first | exact Split.nil | apply Split.cons (by repeat (first | exact Fnd.here | apply Fnd.there)))) ?_
  rintro ⟨k, hk⟩ m0 hm0
  try simp only at hm0
  try dsimp only
  skip
  refine cw_seq ?_
  refine cw_region ?_
  refine ow_y (y_lss rfl rfl) ?_
  refine ow_nil ?_
  refine kw_code (fun _ _ h => h) ?_
  refine cw_seq ?_
  refine cw_if rfl (fun hb5 => ?_) (fun hb5 => ?_)
  · skip
    have hlt : k < 16 := by have := of_decide_eq_true hb5; omega
    refine cw_skip ?_
    refine kw_code (fun _ _ h => h) ?_
    refine cw_seq ?_
    refine cw_block ?_
    refine cw_seq ?_
    refine cw_region ?_
    refine ow_y (y_move rfl) ?_
    refine ow_y (y_assign rfl) ?_
    refine ow_nil ?_
    refine kw_code (fun _ _ h => h) ?_
    refine cw_seq ?_
    refine cw_region ?_
    refine ow_y (y_move rfl) ?_
    refine ow_y (y_conv F.ts3 F.in24 rfl) ?_
    refine ow_y (y_assign rfl) ?_
    refine ow_nil ?_
    have hw : IntKind.u32.wrap (k : Int) = ((Crc.stpN 0 (BitVec.ofNat 32 k)).toNat : Int) := by rw [IntKind.wrap_u32]; simp [Crc.stpN]
    rw [hw]
    refine kw_code (fun _ _ h => h) ?_
    refine cw_seq ?_
    refine cw_seq ?_
    refine cw_region ?_
    refine ow_y (y_move rfl) ?_
    refine ow_nil ?_
    refine kw_code (fun _ _ h => h) ?_
    refine cw_block ?_
    refine cw_loop (X := {j : Nat // j ≤ 4}) (fun x => [(0, .pointer (some ⟨b0, 0, none⟩)), (1, .pointer (some ⟨b1, 0, none⟩)), (4, .int .i64 k), (2, .int .i64 k), (3, .int .u32 ((Crc.stpN x.1 (BitVec.ofNat 32 k)).toNat : Int)), (9, .int .i64 x.1)]) (fun x => [pts b1 (.cells (tabL k).toArray 60 (0, 0)), pts b0 (.cells (tabL 0).toArray 60 (0, 0)), R]) (fun x => 4 - x.1) ⟨0, by omega⟩ (by repeat (first | exact Sub.nil | refine Sub.cons rfl ?_)) (by repeat (first | exact Split.nil | apply Split.cons (by repeat (first | exact Fnd.here | apply Fnd.there)))) ?_
    rintro ⟨j, hj⟩ m2 hm2
    try simp only at hm2
    try dsimp only
    skip
    refine cw_seq ?_
    refine cw_region ?_
    refine ow_y (y_lss rfl rfl) ?_
    refine ow_nil ?_
    refine kw_code (fun _ _ h => h) ?_
    refine cw_seq ?_
    refine cw_if rfl (fun hb10 => ?_) (fun hb10 => ?_)
    · skip
      have hjt : j < 4 := by have := of_decide_eq_true hb10; omega
      refine cw_skip ?_
      refine kw_code (fun _ _ h => h) ?_
      refine cw_seq ?_
      refine cw_block ?_
      refine cw_region ?_
      refine ow_y (y_move rfl) ?_
      refine ow_y (y_shr rfl rfl (by first | decide | (simp only [IntKind.bits]; omega))) ?_
      refine ow_y (y_move rfl) ?_
      refine ow_y (y_and rfl rfl) ?_
      refine ow_y (y_neg rfl) ?_
      refine ow_y (y_and rfl rfl) ?_
      refine ow_y (y_xor rfl rfl) ?_
      refine ow_y (y_assign rfl) ?_
      refine ow_nil ?_
      rw [stp_walk, ← stpN_succ]
      refine kw_code (fun _ _ h => h) ?_
      refine cw_region ?_
      refine ow_y (y_addI rfl rfl (by omega)) ?_
      refine ow_y (y_move rfl) ?_
      refine ow_nil ?_
      refine kw_rnd (fun _ _ h => h) (⟨j + 1, hjt⟩) (by first | omega | (simp only; omega)) (by repeat (first | exact Sub.nil | refine Sub.cons rfl ?_)) (by repeat (first | exact Split.nil | apply Split.cons (by repeat (first | exact Fnd.here | apply Fnd.there))))
    · skip
      have hj4 : j = 4 := by have := of_decide_eq_false hb10; omega
      subst hj4
      refine cw_exit ?_
      refine kw_code (fun _ _ h => h) ?_
      refine cw_region ?_
      refine ow_y (y_move rfl) ?_
      refine ow_y (y_move rfl) ?_
      refine ow_y (y_ixa F.ar60 rfl rfl (by omega)) ?_
      refine ow_store F.sz24 rfl rfl rfl (by simp [tabL]; omega) (tab_set k hlt _ (by simp) _ rfl) ?_
      refine ow_nil ?_
      refine kw_code (fun _ _ h => h) ?_
      refine cw_region ?_
      refine ow_y (y_addI rfl rfl (by omega)) ?_
      refine ow_y (y_move rfl) ?_
      refine ow_nil ?_
      refine kw_rnd (fun _ _ h => h) (⟨k + 1, hlt⟩) (by first | omega | (simp only; omega)) (by repeat (first | exact Sub.nil | refine Sub.cons rfl ?_)) (by repeat (first | exact Split.nil | apply Split.cons (by repeat (first | exact Fnd.here | apply Fnd.there))))
  · skip
    have hk4 : k = 16 := by have := of_decide_eq_false hb5; omega
    subst hk4
    refine cw_exit ?_
    refine kw_code (fun _ _ h => h) ?_
    refine cw_seq ?_
    refine cw_region ?_
    refine ow_y (y_loadAgg F.ag60 rfl (by simp [tabL]) (extract_all (by simp [tabL]))) ?_
    refine ow_storeAgg F.sz60 rfl rfl (by simp [tabL]) (fun x hx => tabL_one _ x (by simpa using hx)) (by simp [tabL]) (splice_all (by simp [tabL])) ?_
    refine ow_nil ?_
    refine kw_code (fun _ _ h => h) ?_
    refine cw_retGC (fun _ _ h => h) (RV.agg F.ag60 rfl (by simp [tabL]) (extract_all (by simp [tabL])) RV.nil) rfl (by repeat (first | exact Split.nil | apply Split.cons (by repeat (first | exact Fnd.here | apply Fnd.there))))
end Go.Proofs.Ytofffddcbjkdcaa
