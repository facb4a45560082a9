/- An error's number is not 0; a shape's letters. -/
import Derived.Test.YtoolmpfkbaffcaaDoorSc5
set_option linter.all false
namespace Go.Sc
open Go
theorem nums_err : ∀ (n : Nat) (l : List ByteArray) (e : Nat), lnNums n l = .error e → e ≠ 0 := by
  intro n
  induction n with
  | zero => intro l e h; cases h
  | succ n ih =>
    intro l e h
    cases l with
    | nil => cases h; decide
    | cons s l =>
      rw [lnNums] at h
      cases hs : lnNum s with
      | none => rw [hs] at h; cases h; decide
      | some v =>
        rw [hs] at h
        simp only [] at h
        cases hn : lnNums n l with
        | error k => rw [hn] at h; cases h; exact ih l _ hn
        | ok p => obtain ⟨us, q⟩ := p; rw [hn] at h; cases h
theorem tail_err (verb : ByteArray) (w : Bool) (ns : List Int) (l : List ByteArray) (e : Nat) (h : lnTail verb w ns l = .error e) : e ≠ 0 := by
  cases w <;> cases l with
  | nil => first | (cases h; decide) | cases h
  | cons s r =>
    first
    | (cases h; decide)
    | (rw [lnTail] at h
       split at h
       · split at h
         · cases h
         · cases h; decide
       · cases h; decide)
theorem parse_err (s : ByteArray) (e : Nat) (h : lnParse s = .error e) : e ≠ 0 := by
  unfold lnParse at h
  split at h
  · cases h; decide
  cases hp : lnParts s with
  | nil => rw [hp] at h; cases h; decide
  | cons verb ws =>
    rw [hp] at h
    simp only [] at h
    cases hsh : lnShape verb with
    | none => rw [hsh] at h; cases h; decide
    | some ow =>
      obtain ⟨o, w⟩ := ow
      rw [hsh] at h
      simp only [] at h
      cases hn : lnNums (o.getD ws.length) ws with
      | error k => rw [hn] at h; cases h; exact nums_err _ _ _ hn
      | ok p => obtain ⟨vs, r⟩ := p; rw [hn] at h; exact tail_err _ _ _ _ _ h
theorem how_at (n : Nat) (w : Bool) (k : Nat) (h : k < n) (hk : k < (lnHow n w).length) : (lnHow n w)[k] = 110 := by
  have e : (lnHow n w)[k]? = some 110 := by
    unfold lnHow
    rw [List.getElem?_append_left (by simpa using h), List.getElem?_replicate, if_pos h]
  exact Option.some.inj ((List.getElem?_eq_getElem hk).symm.trans e)
theorem how_last (n : Nat) (hk : n < (lnHow n true).length) : (lnHow n true)[n] = 119 := by
  have e : (lnHow n true)[n]? = some 119 := by
    unfold lnHow
    rw [List.getElem?_append_right (by simp)]
    simp
  exact Option.some.inj ((List.getElem?_eq_getElem hk).symm.trans e)
end Go.Sc
