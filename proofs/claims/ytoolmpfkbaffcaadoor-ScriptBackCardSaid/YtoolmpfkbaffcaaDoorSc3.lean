/- The words between blanks: the library's cut is the same. -/
import Derived.Test.YtoolmpfkbaffcaaDoorSc
set_option linter.all false
namespace Go.Sc
open Go
theorem index_step (c : UInt8) (r : List UInt8) (h : c ≠ 32) : Lib.index (c :: r) [32] = if Lib.index r [32] == -1 then -1 else Lib.index r [32] + 1 := by
  rw [Lib.index]
  rw [if_neg]
  simp [List.isPrefixOf, Ne.symm h]
theorem splitK_cuts : ∀ (l : List UInt8) (k : Nat) (p : List UInt8), l.count 32 ≤ k → ∃ h t, Lib.splitK [32] 0 k l = h :: t ∧ lnCuts p l = (p ++ h) :: t := by
  intro l
  induction l with
  | nil =>
    intro k p _
    cases k with
    | zero => exact ⟨[], [], rfl, by simp [lnCuts]⟩
    | succ k => exact ⟨[], [], rfl, by simp [lnCuts]⟩
  | cons c r ih =>
    intro k p hk
    by_cases hc : c = 32
    · subst hc
      rw [List.count_cons_self] at hk
      obtain ⟨k, rfl⟩ : ∃ j, k = j + 1 := ⟨k - 1, by omega⟩
      obtain ⟨h, t, h1, h2⟩ := ih k [] (by omega)
      refine ⟨[], h :: t, ?_, ?_⟩
      · have e : Lib.index (32 :: r) [32] = 0 := by rw [Lib.index]; simp [List.isPrefixOf]
        rw [Lib.splitK, e]; simp [h1]
      · rw [lnCuts, if_pos rfl, h2]; simp
    · rw [List.count_cons_of_ne hc] at hk
      obtain ⟨h, t, h1, h2⟩ := ih k (p ++ [c]) hk
      refine ⟨c :: h, t, ?_, ?_⟩
      · cases k with
        | zero =>
          simp only [Lib.splitK, List.cons.injEq] at h1 ⊢
          exact ⟨⟨trivial, h1.1⟩, h1.2⟩
        | succ k =>
          rw [Lib.splitK] at h1 ⊢
          rw [index_step c r hc]
          by_cases hm : Lib.index r [32] == -1
          · rw [if_pos hm] at h1
            simp only [hm, if_true]
            simp only [List.cons.injEq] at h1
            simp only [beq_self_eq_true, if_true, List.cons.injEq]
            exact ⟨⟨trivial, h1.1⟩, h1.2⟩
          · have hge := Lib.index_ge r [32]
            have hm' : Lib.index r [32] ≠ -1 := by simpa using hm
            obtain ⟨i, hi⟩ : ∃ i : Nat, Lib.index r [32] = i := ⟨(Lib.index r [32]).toNat, by omega⟩
            rw [if_neg hm] at h1 ⊢
            rw [hi] at h1 ⊢
            rw [if_neg (by simp; omega)]
            simp only [List.cons.injEq] at h1
            rw [show ((i : Int) + 1).toNat = i + 1 by omega]
            rw [show (i : Int).toNat = i by omega] at h1
            rw [← h1.1, ← h1.2]
            rfl
      · rw [lnCuts, if_neg hc, h2]; simp
theorem split_parts (s sep : ByteArray) (he : sep.data.toList = [32]) : Lib.splitB sep 0 (Lib.countB s sep) s = lnParts s := by
  have hc : Lib.countB s sep = s.data.toList.count 32 := by
    show Lib.count s.data.toList sep.data.toList = _
    rw [he, Lib.count_one]
  have hd := Lib.splitB_data sep 0 (Lib.countB s sep) s
  rw [he, hc] at hd
  obtain ⟨h, t, h1, h2⟩ := splitK_cuts s.data.toList _ [] (Nat.le_refl _)
  rw [h1] at hd
  rw [List.nil_append] at h2
  rw [lnParts, h2, ← hd, List.map_map, hc]
  have : (sb ∘ fun x : ByteArray => x.data.toList) = id := by
    funext x; cases x; simp [sb]
  rw [this, List.map_id]
theorem parts_len (s sep : ByteArray) (he : sep.data.toList = [32]) (h1 : 1 ≤ sep.size) : (lnParts s).length = Lib.countB s sep + 1 := by
  rw [← split_parts s sep he, Lib.splitB_all sep h1 0 _ s rfl]
end Go.Sc
