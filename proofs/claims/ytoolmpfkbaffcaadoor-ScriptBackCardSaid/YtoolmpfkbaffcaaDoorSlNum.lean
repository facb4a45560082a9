/- Numbers: masks. -/
import Derived.Test.YtoolmpfkbaffcaaDoorSlOps
import Derived.Laws.BitsLemmas
set_option linter.all false
namespace Go.Sl
theorem emod_toNat (x : Int) (p q : Nat) (hp : 0 < p) (hq : 0 < q) (hd : p ∣ q) : (x % (q : Int)).toNat % p = (x % (p : Int)).toNat := by
  have h1 : ((x % (q : Int)).toNat : Int) = x % (q : Int) := Int.toNat_of_nonneg (Int.emod_nonneg _ (by omega))
  have h0 : ((x % (p : Int)).toNat : Int) = x % (p : Int) := Int.toNat_of_nonneg (Int.emod_nonneg _ (by omega))
  have h2 : (((x % (q : Int)).toNat % p : Nat) : Int) = x % (p : Int) := by
    rw [Int.natCast_emod, h1]
    exact Int.emod_emod_of_dvd _ (Int.natCast_dvd_natCast.2 hd)
  omega
theorem wrap_sm (k : IntKind) (n : Int) (h0 : 0 ≤ n) (h1 : n < ((2 ^ (k.bits - 1) : Nat) : Int)) : k.wrap n = n := by
  have hlt : ((2 ^ (k.bits - 1) : Nat) : Int) ≤ ((2 ^ k.bits : Nat) : Int) := Int.ofNat_le.2 (Nat.pow_le_pow_right (by decide) (Nat.sub_le _ _))
  have e1 : ((2 ^ (k.bits - 1) : Nat) : Int) = (2 : Int) ^ (k.bits - 1) := by rw [Int.natCast_pow]; rfl
  have e2 : ((2 ^ k.bits : Nat) : Int) = (2 : Int) ^ k.bits := by rw [Int.natCast_pow]; rfl
  rw [e1] at h1 hlt
  rw [e2] at hlt
  have hq : n % (2 : Int) ^ k.bits = n := Int.emod_eq_of_lt h0 (Int.lt_of_lt_of_le h1 hlt)
  unfold IntKind.wrap
  simp only [hq]
  rw [if_neg]
  simp only [Bool.and_eq_true, decide_eq_true_eq]
  rintro ⟨_, hge⟩
  exact absurd h1 (Int.not_lt.2 hge)
/-- what a mask leaves, of any number (a negative one too) -/
theorem and_mask (k : IntKind) (i : Nat) (hi : i ≤ 7 ∨ (i ≤ 31 ∧ 32 ≤ k.bits)) (m : Nat) (hm : m = 2 ^ i - 1) (x : Int) : bits .and k x m = x % ((2 ^ i : Nat) : Int) := by
  have hkb : i < k.bits ∧ (k.signed = true → i < k.bits) := by
    have : 8 ≤ k.bits := by cases k <;> decide
    omega
  have hpos : 0 < 2 ^ i := Nat.two_pow_pos i
  have hlt : 2 ^ i - 1 < 2 ^ k.bits := Nat.lt_of_lt_of_le (Nat.sub_lt hpos (by decide)) (Nat.pow_le_pow_right (by decide) (Nat.le_of_lt hkb.1))
  have hx : (BitVec.ofInt k.bits x).toNat % 2 ^ i = (x % ((2 ^ i : Nat) : Int)).toNat := by
    rw [BitVec.toNat_ofInt]
    exact emod_toNat x _ _ hpos (Nat.two_pow_pos _) (Nat.pow_dvd_pow 2 (Nat.le_of_lt hkb.1))
  have hr0 : 0 ≤ x % ((2 ^ i : Nat) : Int) := Int.emod_nonneg _ (by omega)
  have hr1 : x % ((2 ^ i : Nat) : Int) < ((2 ^ i : Nat) : Int) := Int.emod_lt_of_pos _ (by omega)
  subst hm
  simp only [bits, BitVec.ofInt_natCast, BitVec.toNat_and, BitVec.toNat_ofNat, Nat.mod_eq_of_lt hlt, Nat.and_two_pow_sub_one_eq_mod, hx]
  rw [Int.toNat_of_nonneg hr0]
  generalize x % ((2 ^ i : Nat) : Int) = r at hr0 hr1
  refine wrap_sm k r hr0 (Int.lt_of_lt_of_le hr1 ?_)
  have h1 : 2 ^ i ≤ 2 ^ (k.bits - 1) := Nat.pow_le_pow_right (by decide) (by have : 8 ≤ k.bits := by cases k <;> decide
                                                                             omega)
  exact Int.ofNat_le.2 h1
theorem xor_i64 (a b : Nat) (ha : a < 9223372036854775808) (hb : b < 9223372036854775808) : bits .xor .i64 (a : Int) (b : Int) = ((a ^^^ b : Nat) : Int) := by
  have h : a ^^^ b < 2 ^ 63 := Nat.xor_lt_two_pow (by simpa using ha) (by simpa using hb)
  have e1 : a % 2 ^ IntKind.i64.bits = a := Nat.mod_eq_of_lt (by simp only [IntKind.bits]; omega)
  have e2 : b % 2 ^ IntKind.i64.bits = b := Nat.mod_eq_of_lt (by simp only [IntKind.bits]; omega)
  simp only [bits, BitVec.ofInt_natCast, BitVec.toNat_xor, BitVec.toNat_ofNat, e1, e2]
  exact wrap_sm .i64 _ (Int.natCast_nonneg _) (Int.ofNat_lt.2 h)
theorem or_u64 (a b : Nat) (ha : a * 256 < 18446744073709551616) (hb : b < 256) : bits .or .u64 ((a * 256 : Nat) : Int) (b : Int) = ((a * 256 + b : Nat) : Int) := by
  have e1 : (a * 256) % 2 ^ IntKind.u64.bits = a * 256 := Nat.mod_eq_of_lt (by simp only [IntKind.bits]; omega)
  have e2 : b % 2 ^ IntKind.u64.bits = b := Nat.mod_eq_of_lt (by simp only [IntKind.bits]; omega)
  have e3 : a * 256 ||| b = a * 256 + b := by
    have := Nat.two_pow_add_eq_or_of_lt (i := 8) (b := b) (by simpa using hb) a
    rw [Nat.mul_comm a 256]; exact this.symm
  simp only [bits, BitVec.ofInt_natCast, BitVec.toNat_or, BitVec.toNat_ofNat, e1, e2, e3]
  simp only [IntKind.wrap, IntKind.bits, IntKind.signed, Bool.false_and, Bool.false_eq_true, if_false]
  exact Int.emod_eq_of_lt (Int.natCast_nonneg _) (by omega)
theorem and_255 (k : IntKind) (h : 32 ≤ k.bits) (x : Int) : bits .and k x 255 = x % 256 := and_mask k 8 (.inr ⟨by decide, h⟩) 255 (by decide) x
theorem and_63 (k : IntKind) (x : Int) : bits .and k x 63 = x % 64 := and_mask k 6 (.inl (by decide)) 63 (by decide) x
theorem and_15 (k : IntKind) (x : Int) : bits .and k x 15 = x % 16 := and_mask k 4 (.inl (by decide)) 15 (by decide) x
theorem and_31 (k : IntKind) (x : Int) : bits .and k x 31 = x % 32 := and_mask k 5 (.inl (by decide)) 31 (by decide) x
theorem and_7 (k : IntKind) (x : Int) : bits .and k x 7 = x % 8 := and_mask k 3 (.inl (by decide)) 7 (by decide) x
theorem and_3 (k : IntKind) (x : Int) : bits .and k x 3 = x % 4 := and_mask k 2 (.inl (by decide)) 3 (by decide) x
theorem and_1 (k : IntKind) (x : Int) : bits .and k x 1 = x % 2 := and_mask k 1 (.inl (by decide)) 1 (by decide) x
end Go.Sl
