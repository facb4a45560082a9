/- Numbers as texts: the reference's reading is the same. -/
import Derived.Test.YtoolmpfkbaffcaaDoorSc
import Derived.Lib.AtoiTie
import Derived.Lib.AtoiErr
set_option linter.all false
namespace Go.Sc
open Go
/-- the digits' value, from the left -/
def digs : Nat → List UInt8 → Option Nat := Lib.decFrom
def refNum (l : List UInt8) : Option Int :=
  let t := if l.head? = some 45 then l.tail else l
  if (l.head? = some 45 ∧ t = [48]) ∨ t = [] ∨ 7 < t.length ∨ (1 < t.length ∧ t.head? = some 48) then none else
  match Lib.decFrom 0 t with
  | none => none
  | some n => if 1000000 < n then none else some (if l.head? = some 45 then -(n : Int) else n)
theorem decFrom_append (a : List UInt8) (b : UInt8) : ∀ acc, Lib.decFrom acc (a ++ [b]) = (Lib.decFrom acc a).bind fun n => (Lib.digitVal b).map fun d => n * 10 + d := by
  induction a with
  | nil => intro acc; simp only [List.nil_append, Lib.decFrom]; cases h : Lib.digitVal b <;> simp [Lib.decFrom, h]
  | cons c r ih =>
    intro acc
    simp only [List.cons_append, Lib.decFrom]
    cases h : Lib.digitVal c with
    | none => simp
    | some d => simpa using ih _
theorem digit_ofNat (d : Nat) (h : d < 10) : Lib.digitVal (UInt8.ofNat (48 + d)) = some d := by
  have e : (UInt8.ofNat (48 + d)).toNat = 48 + d := by rw [UInt8.toNat_ofNat']; omega
  unfold Lib.digitVal
  rw [if_pos (by omega), e]; congr 1; omega
theorem decFrom_decDigits : ∀ u, Lib.decFrom 0 (Lib.decDigits u) = some u := by
  intro u
  induction u using Nat.strongRecOn with
  | ind u ih =>
    rw [Lib.decDigits]
    by_cases h : u < 10
    · rw [dif_pos h, Lib.decFrom, digit_ofNat u h]; simp [Lib.decFrom]
    · rw [dif_neg h, decFrom_append, ih (u / 10) (by omega), digit_ofNat _ (by omega)]
      simp; omega
theorem decDigits_ne (u : Nat) : Lib.decDigits u ≠ [] := by
  rw [Lib.decDigits]; split <;> simp
theorem decDigits_head : ∀ u, ∃ c r, Lib.decDigits u = c :: r ∧ 48 ≤ c.toNat ∧ c.toNat ≤ 57 ∧ (c = 48 → u = 0) := by
  intro u
  induction u using Nat.strongRecOn with
  | ind u ih =>
    rw [Lib.decDigits]
    by_cases h : u < 10
    · have e : (UInt8.ofNat (48 + u)).toNat = 48 + u := by rw [UInt8.toNat_ofNat']; omega
      rw [dif_pos h]
      refine ⟨_, [], rfl, by omega, by omega, fun h0 => ?_⟩
      have := congrArg UInt8.toNat h0
      rw [e] at this
      have e2 : (48 : UInt8).toNat = 48 := rfl
      omega
    · rw [dif_neg h]
      obtain ⟨c, r, h1, h2, h3, h4⟩ := ih (u / 10) (by omega)
      rw [h1]
      exact ⟨c, r ++ _, rfl, h2, h3, fun h0 => by have := h4 h0; omega⟩
theorem canon : ∀ (k : Nat) (t : List UInt8) (n : Nat), t.length = k → Lib.decFrom 0 t = some n → t ≠ [] → (t.length = 1 ∨ t.head? ≠ some 48) → Lib.decDigits n = t := by
  intro k
  induction k with
  | zero => intro t n hk _ h0; exact absurd (List.eq_nil_of_length_eq_zero hk) h0
  | succ k ih =>
    intro t n hk hd h0 hz
    obtain ⟨a, b, rfl⟩ : ∃ a b, t = a ++ [b] := ⟨t.dropLast, t.getLast h0, (List.dropLast_concat_getLast h0).symm⟩
    rw [decFrom_append] at hd
    simp only [List.length_append, List.length_singleton] at hk
    cases hm : Lib.decFrom 0 a with
    | none => rw [hm] at hd; cases hd
    | some m =>
      cases hb : Lib.digitVal b with
      | none => rw [hm, hb] at hd; cases hd
      | some d =>
        rw [hm, hb] at hd
        simp only [Option.bind_some, Option.map_some, Option.some.injEq] at hd
        obtain ⟨hb1, hb2, hb3⟩ := Lib.digitVal_eq hb
        have eb : UInt8.ofNat (48 + d) = b := by
          apply UInt8.toNat_inj.1
          rw [UInt8.toNat_ofNat']; omega
        by_cases ha : a = []
        · subst ha
          simp only [Lib.decFrom, Option.some.injEq] at hm
          rw [Lib.decDigits, dif_pos (by omega), show n = d by omega, eb]; rfl
        · have hz2 : a.head? ≠ some 48 := by
            rcases hz with h | h
            · have : a.length ≠ 0 := fun e => ha (List.eq_nil_of_length_eq_zero e)
              simp only [List.length_append, List.length_singleton] at h; omega
            · cases a with
              | nil => exact absurd rfl ha
              | cons x y => simpa using h
          have e := ih a m (by omega) hm ha (.inr hz2)
          have hm1 : m ≠ 0 := by
            rintro rfl
            rw [Lib.decDigits_one (by decide)] at e
            rw [← e] at hz2; exact hz2 rfl
          rw [Lib.decDigits, dif_neg (by omega), show n / 10 = m by omega, e, show n % 10 = d by omega, eb]
theorem digs_len (u : Nat) (h : u ≤ 1000000) : (Lib.decDigits u).length ≤ 7 := by
  rw [Lib.decDigits_length]
  by_cases h0 : u = 0
  · subst h0; rw [Lib.nDigits_small (by decide)]; decide
  · have h1 : u < 10 ^ 7 := by omega
    have := Lib.nDigits_pos u
    rcases Nat.lt_or_ge 7 (Lib.nDigits u) with h2 | h2
    · exfalso
      have hk : ∀ (k u : Nat), u < 10 ^ (k + 1) → Lib.nDigits u ≤ k + 1 := by
        intro k
        induction k with
        | zero => intro u hu; rw [Lib.nDigits_small (by omega)]; exact Nat.le_refl _
        | succ k ih =>
          intro u hu
          by_cases hs : u < 10
          · rw [Lib.nDigits_small hs]; omega
          · rw [Lib.nDigits_big hs]
            have := ih (u / 10) (by rw [Nat.div_lt_iff_lt_mul (by decide)]; rw [Nat.pow_succ] at hu; omega)
            omega
      have := hk 6 u h1
      omega
    · exact h2
theorem itoa_refNum (v : Int) (h1 : v ≤ 1000000) (h2 : -1000000 ≤ v) : refNum (Lib.itoa v) = some v := by
  obtain ⟨c, r, hd, hc1, hc2, hc3⟩ := decDigits_head v.natAbs
  have hlen := digs_len v.natAbs (by omega)
  have hf := decFrom_decDigits v.natAbs
  have h48 : (48 : UInt8).toNat = 48 := rfl
  have h45 : c ≠ 45 := by intro h; subst h; exact absurd hc1 (by decide)
  unfold Lib.itoa refNum
  by_cases hn : v < 0
  · rw [if_pos hn, hd]
    rw [hd] at hlen hf
    simp only [List.head?_cons, List.tail_cons, if_true, true_and]
    rw [if_neg, hf]
    · simp only []
      rw [if_neg (by omega)]; congr 1; omega
    · rintro (h | h | h | h)
      · have := hc3 (by simpa using (List.cons.inj h).1); omega
      · cases h
      · omega
      · obtain ⟨g1, g2⟩ := h
        have := hc3 (by simpa using g2); omega
  · rw [if_neg hn, show v.toNat = v.natAbs by omega, hd]
    rw [hd] at hlen hf
    simp only [List.head?_cons, Option.some.injEq, h45, if_false, false_and, false_or]
    rw [if_neg, hf]
    · simp only []
      rw [if_neg (by omega)]; congr 1; omega
    · rintro (h | h | h)
      · cases h
      · omega
      · obtain ⟨g1, g2⟩ := h
        have := hc3 (by simpa using g2)
        have e : Lib.decDigits v.natAbs = [48] := by rw [this]; exact Lib.decDigits_one (by decide)
        rw [hd] at e; rw [e] at g1; simp at g1
theorem refNum_itoa (l : List UInt8) (v : Int) (h : refNum l = some v) : Lib.itoa v = l ∧ v ≤ 1000000 ∧ -1000000 ≤ v := by
  unfold refNum at h
  by_cases h45 : l.head? = some 45
  · obtain ⟨r, rfl⟩ : ∃ r, l = 45 :: r := by
      cases l with
      | nil => cases h45
      | cons a r => exact ⟨r, by simp at h45; rw [h45]⟩
    simp only [h45, if_true, true_and, List.tail_cons] at h
    split at h
    · cases h
    · rename_i hno
      simp only [not_or, not_and] at hno
      obtain ⟨n1, n2, n3, n4⟩ := hno
      split at h
      · cases h
      · rename_i n hf
        split at h
        · cases h
        · have e := canon _ r n rfl hf n2 (by
            rcases Nat.lt_or_ge 1 r.length with h | h
            · exact .inr (n4 h)
            · have : r.length ≠ 0 := fun e => n2 (List.eq_nil_of_length_eq_zero e)
              exact .inl (by omega))
          have hn0 : n ≠ 0 := by
            rintro rfl
            rw [Lib.decDigits_one (by decide)] at e
            exact n1 e.symm
          simp only [Option.some.injEq] at h
          subst h
          refine ⟨?_, by omega, by omega⟩
          unfold Lib.itoa
          rw [if_pos (by omega), show (-(n : Int)).natAbs = n by omega, e]
  · simp only [h45, if_false, false_and, false_or] at h
    split at h
    · cases h
    · rename_i hno
      simp only [not_or, not_and] at hno
      obtain ⟨n2, n3, n4⟩ := hno
      split at h
      · cases h
      · rename_i n hf
        split at h
        · cases h
        · have e := canon _ l n rfl hf n2 (by
            rcases Nat.lt_or_ge 1 l.length with h | h
            · exact .inr (n4 h)
            · have : l.length ≠ 0 := fun e => n2 (List.eq_nil_of_length_eq_zero e)
              exact .inl (by omega))
          simp only [Option.some.injEq] at h
          subst h
          refine ⟨?_, by omega, by omega⟩
          unfold Lib.itoa
          rw [if_neg (by omega), show ((n : Int)).toNat = n by omega, e]
theorem atoiAll_itoa (v : Int) (h1 : v ≤ 1000000) (h2 : -1000000 ≤ v) : Lib.atoiAll (Lib.itoa v) = .ok v := by
  obtain ⟨c, r, hd, hc1, hc2, hc3⟩ := decDigits_head v.natAbs
  have hlen := digs_len v.natAbs (by omega)
  have hf := decFrom_decDigits v.natAbs
  have h45 : (c == 45) = false := by simp only [beq_eq_false_iff_ne]; rintro rfl; exact absurd hc1 (by decide)
  have h43 : (c == 43) = false := by simp only [beq_eq_false_iff_ne]; rintro rfl; exact absurd hc1 (by decide)
  have hdn : Lib.decNat (c :: r) = some v.natAbs := by unfold Lib.decNat; rw [← hd, hf]; simp [decDigits_ne]
  have hl : (Lib.itoa v).length ≤ 18 := by unfold Lib.itoa; split <;> first | (simp; omega) | (rw [show v.toNat = v.natAbs by omega]; omega)
  rw [Lib.atoiAll_short _ hl]
  unfold Lib.itoa
  by_cases hn : v < 0
  · rw [if_pos hn, hd]
    simp only [Lib.atoi, beq_self_eq_true, if_true, hdn, Option.map_some, Lib.NumEnd.ofOption]
    congr 1; omega
  · rw [if_neg hn, show v.toNat = v.natAbs by omega, hd]
    simp only [Lib.atoi, h45, h43, hdn, Option.map_some, Lib.NumEnd.ofOption, if_false, Bool.false_eq_true]
    congr 1; omega
theorem lnNum_eq (s : ByteArray) : lnNum s = refNum s.data.toList := by
  cases h : refNum s.data.toList with
  | some v =>
    obtain ⟨h1, h2, h3⟩ := refNum_itoa _ _ h
    unfold lnNum
    rw [← h1, atoiAll_itoa v h2 h3]
    simp [h2, h3]
  | none =>
    cases hl : lnNum s with
    | none => rfl
    | some v =>
      unfold lnNum at hl
      split at hl
      · split at hl
        · rename_i w _ hc
          cases hl
          have := itoa_refNum v hc.2.1 hc.2.2
          rw [hc.1, h] at this; cases this
        · cases hl
      · cases hl
end Go.Sc
namespace Go.Sc
open Go
theorem decFrom_app (a b : List UInt8) : ∀ acc, Lib.decFrom acc (a ++ b) = (Lib.decFrom acc a).bind fun n => Lib.decFrom n b := by
  induction a with
  | nil => intro acc; simp [Lib.decFrom]
  | cons c r ih =>
    intro acc
    simp only [List.cons_append, Lib.decFrom]
    cases h : Lib.digitVal c with
    | none => simp
    | some d => simpa using ih _
theorem decFrom_bad (l : List UInt8) (i : Nat) (h : i < l.length) (n : Nat) (hn : Lib.decFrom 0 (l.take i) = some n) (hd : Lib.digitVal l[i] = none) : Lib.decFrom 0 l = none := by
  have e : l = l.take i ++ l[i] :: l.drop (i + 1) := by rw [← List.drop_eq_getElem_cons h, List.take_append_drop]
  rw [e, decFrom_app, hn]; simp [Lib.decFrom, hd]
end Go.Sc
