/- Part of the proof; no statement of its own: S2. -/
import Derived.Test.YtoolmpfkbaffcaaDoorFacts
import Derived.Test.YtoolmpfkbaffcaaDoorS1
set_option linter.all false
set_option maxRecDepth 4000
set_option maxHeartbeats 4000000
namespace Go.Proofs.YtoolmpfkbaffcaaDoor
open Go.Sl Go.Sc
theorem all_step (l : List UInt8) (i : Nat) (h : i < l.length) (h0 : (l.take i).all isW = true) (h1 : isW l[i] = true) : (l.take (i + 1)).all isW = true := by
  rw [List.take_succ, List.getElem?_eq_getElem h, List.all_append, h0]; simpa using h1
theorem all_not (l : List UInt8) (i : Nat) (h : i < l.length) (h1 : isW l[i] = false) : l.all isW = false := by
  rw [List.all_eq_false]; exact ⟨l[i], List.getElem_mem h, by simp [h1]⟩
theorem isW_int (c : UInt8) : isW c = ((decide ((97 : Int) ≤ (c.toNat : Int)) && decide ((c.toNat : Int) ≤ 122)) || (decide ((48 : Int) ≤ (c.toNat : Int)) && decide ((c.toNat : Int) ≤ 57))) := by
  have e : ∀ a b : Nat, decide (a ≤ b) = decide ((a : Int) ≤ (b : Int)) := fun a b => by simp [Int.ofNat_le]
  simp only [isW]; rw [e, e, e, e]; rfl
theorem wordOk_eq (s : ByteArray) (h : s.data.toList.all isW = true) : wordOk s = (decide (1 ≤ s.size) && decide (s.size ≤ 16)) := by simp [wordOk, h]
theorem word_spec (s : ByteArray) (hs : s.size ≤ maxLen) : Does Tryd.prog 14 #[.string s] [] (Gives (.bool (wordOk s)) []) := by
  have hm := hs
  simp only [maxLen] at hs
  have hsl : s.data.toList.length = s.size := by simp
  refine does_enter Tryd.func14 rfl Tryd.ntmps14 rfl (fun R w0 => ?_)
  simp only [envOf, List.cons_append, List.nil_append]
  refine cw_seq ?_
  refine cw_region ?_
  refine ow_y (y_assign rfl) ?_
  refine ow_nil ?_
  refine kw_code (fun _ _ h => h) ?_
  refine cw_seq ?_
  refine cw_seq ?_
  refine cw_region ?_
  refine ow_y (y_move rfl) ?_
  refine ow_bytes F.st9 F.sl56 F.by5 rfl hm (fun b6 k6 hk6 hm6 => ?_)
  refine ow_y (y_len_slice F.sl56 rfl) ?_
  refine ow_y (y_move rfl) ?_
  refine ow_nil ?_
  refine kw_code (fun _ _ h => h) ?_
  refine cw_block ?_
  refine cw_loop (X := {i : Nat // i ≤ s.size ∧ (s.data.toList.take i).all isW = true}) (fun x => [(0, .string s), (6, .slice (some ⟨b6, 0, none⟩) s.size k6), (7, .int .i64 s.size), (8, .int .i64 x.1)]) (fun x => [pts b6 (.cells (bytesL s k6).toArray 5 (k6, k6 + 1)), R]) (fun x => s.size - x.1) ⟨0, by omega, rfl⟩ (by repeat (first | exact Sub.nil | refine Sub.cons rfl ?_)) (by repeat (first | exact Split.nil | apply Split.cons (by repeat (first | exact Fnd.here | apply Fnd.there)))) ?_
  rintro ⟨i, hi, hall⟩ m0 hm0
  try simp only at hm0
  try dsimp only
  skip
  refine cw_seq ?_
  refine cw_region ?_
  refine ow_y (y_lss rfl rfl) ?_
  refine ow_nil ?_
  refine kw_code (fun _ _ h => h) ?_
  refine cw_seq ?_
  refine cw_if rfl (fun hb9 => ?_) (fun hb9 => ?_)
  · skip
    have hit : i < s.size := by have := of_decide_eq_true hb9; omega
    have hil : i < s.data.toList.length := by omega
    refine cw_skip ?_
    refine kw_code (fun _ _ h => h) ?_
    refine cw_seq ?_
    refine cw_block ?_
    refine cw_seq ?_
    refine cw_region ?_
    refine ow_y (y_ixs F.sl56 rfl rfl (by omega)) ?_
    refine ow_y (y_load F.sc5 rfl (bytes_at s k6 i hit _ (by simp))) ?_
    refine ow_y (y_assign rfl) ?_
    refine ow_nil ?_
    have hst := all_step s.data.toList i hil hall
    have hno := all_not s.data.toList i hil
    have hw := isW_int (s.data.toList[i]'hil)
    simp only [byteV]
    generalize s.data.toList[i]'hil = c at hst hno hw
    refine kw_code (fun _ _ h => h) ?_
    refine cw_seq ?_
    by_cases h1 : (c.toNat : Int) < 97
    · skip
      by_cases h2 : (c.toNat : Int) < 48
      · skip
        refine cw_region ?_
        refine ow_y (y_move rfl) ?_
        refine ow_y (y_lss rfl rfl) ?_
        refine ow_y (y_move rfl) ?_
        refine ow_skip rfl (fun a w hh => (want_of rfl rfl rfl hh).trans (wFT (by first | rfl | exact decide_eq_true (by omega)))) ?_
        refine ow_skip rfl (fun a w hh => (want_of rfl rfl rfl hh).trans (wFT (by first | rfl | exact decide_eq_true (by omega)))) ?_
        refine ow_y (y_pickT rfl (by first | rfl | exact decide_eq_true (by omega)) rfl) ?_
        refine ow_y (y_move rfl) ?_
        refine ow_yg (y_move rfl) (fun a w hh => (want_of rfl rfl rfl hh).trans (wTT (by first | rfl | exact decide_eq_true (by omega)))) ?_
        refine ow_yg (y_lss rfl rfl) (fun a w hh => (want_of rfl rfl rfl hh).trans (wTT (by first | rfl | exact decide_eq_true (by omega)))) ?_
        refine ow_yg (y_move rfl) (fun a w hh => (want_of rfl rfl rfl hh).trans (wTT (by first | rfl | exact decide_eq_true (by omega)))) ?_
        refine ow_skip rfl (fun a w hh => (want_of rfl rfl rfl hh).trans (wFT (by first | rfl | exact decide_eq_true (by omega)))) ?_
        refine ow_skip rfl (fun a w hh => (want_of rfl rfl rfl hh).trans (wFT (by first | rfl | exact decide_eq_true (by omega)))) ?_
        refine ow_yg (y_pickT rfl (by first | rfl | exact decide_eq_true (by omega)) rfl) (fun a w hh => (want_of rfl rfl rfl hh).trans (wTT (by first | rfl | exact decide_eq_true (by omega)))) ?_
        refine ow_y (y_pickT rfl (by first | rfl | exact decide_eq_true (by omega)) rfl) ?_
        refine ow_nil ?_
        refine kw_code (fun _ _ h => h) ?_
        refine cw_true rfl (by first | rfl | exact decide_eq_true (by omega)) ?_
        refine cw_seq ?_
        refine cw_region ?_
        refine ow_y (y_assign rfl) ?_
        refine ow_nil ?_
        refine kw_code (fun _ _ h => h) ?_
        refine cw_retG (fun _ _ h => h) rfl (by rw [wordOk, hno (by rw [hw]; simp; omega)]; simp) (by repeat (first | exact Split.nil | apply Split.cons (by repeat (first | exact Fnd.here | apply Fnd.there))))
      · skip
        refine cw_region ?_
        refine ow_y (y_move rfl) ?_
        refine ow_y (y_lss rfl rfl) ?_
        refine ow_y (y_move rfl) ?_
        refine ow_skip rfl (fun a w hh => (want_of rfl rfl rfl hh).trans (wFT (by first | rfl | exact decide_eq_true (by omega)))) ?_
        refine ow_skip rfl (fun a w hh => (want_of rfl rfl rfl hh).trans (wFT (by first | rfl | exact decide_eq_true (by omega)))) ?_
        refine ow_y (y_pickT rfl (by first | rfl | exact decide_eq_true (by omega)) rfl) ?_
        refine ow_y (y_move rfl) ?_
        refine ow_yg (y_move rfl) (fun a w hh => (want_of rfl rfl rfl hh).trans (wTT (by first | rfl | exact decide_eq_true (by omega)))) ?_
        refine ow_yg (y_lss rfl rfl) (fun a w hh => (want_of rfl rfl rfl hh).trans (wTT (by first | rfl | exact decide_eq_true (by omega)))) ?_
        refine ow_yg (y_move rfl) (fun a w hh => (want_of rfl rfl rfl hh).trans (wTT (by first | rfl | exact decide_eq_true (by omega)))) ?_
        refine ow_yg (y_move rfl) (fun a w hh => (want_of rfl rfl rfl hh).trans (wFF (by first | rfl | exact decide_eq_false (by omega)))) ?_
        refine ow_yg (y_gtr rfl rfl) (fun a w hh => (want_of rfl rfl rfl hh).trans (wFF (by first | rfl | exact decide_eq_false (by omega)))) ?_
        refine ow_yg (y_pickF rfl (by first | rfl | exact decide_eq_false (by omega)) rfl) (fun a w hh => (want_of rfl rfl rfl hh).trans (wTT (by first | rfl | exact decide_eq_true (by omega)))) ?_
        refine ow_y (y_pickT rfl (by first | rfl | exact decide_eq_true (by omega)) rfl) ?_
        refine ow_nil ?_
        refine kw_code (fun _ _ h => h) ?_
        refine cw_if rfl (fun hb25 => ?_) (fun hb25 => ?_)
        · skip
          refine cw_seq ?_
          refine cw_region ?_
          refine ow_y (y_assign rfl) ?_
          refine ow_nil ?_
          refine kw_code (fun _ _ h => h) ?_
          refine cw_retG (fun _ _ h => h) rfl (by have := of_decide_eq_true hb25; rw [wordOk, hno (by rw [hw]; simp; omega)]; simp) (by repeat (first | exact Split.nil | apply Split.cons (by repeat (first | exact Fnd.here | apply Fnd.there))))
        · skip
          refine cw_skip ?_
          refine kw_code (fun _ _ h => h) ?_
          refine cw_region ?_
          refine ow_y (y_addI rfl rfl (by omega)) ?_
          refine ow_y (y_move rfl) ?_
          refine ow_nil ?_
          refine kw_rnd (fun _ _ h => h) (⟨i + 1, hit, hst (by rw [hw]; have := of_decide_eq_false hb25; simp; omega)⟩) (by first | omega | (simp only; omega)) (by repeat (first | exact Sub.nil | refine Sub.cons rfl ?_)) (by repeat (first | exact Split.nil | apply Split.cons (by repeat (first | exact Fnd.here | apply Fnd.there))))
    · skip
      by_cases h2 : (122 : Int) < c.toNat
      · skip
        refine cw_region ?_
        refine ow_y (y_move rfl) ?_
        refine ow_y (y_lss rfl rfl) ?_
        refine ow_y (y_move rfl) ?_
        refine ow_yg (y_move rfl) (fun a w hh => (want_of rfl rfl rfl hh).trans (wFF (by first | rfl | exact decide_eq_false (by omega)))) ?_
        refine ow_yg (y_gtr rfl rfl) (fun a w hh => (want_of rfl rfl rfl hh).trans (wFF (by first | rfl | exact decide_eq_false (by omega)))) ?_
        refine ow_y (y_pickF rfl (by first | rfl | exact decide_eq_false (by omega)) rfl) ?_
        refine ow_y (y_move rfl) ?_
        refine ow_yg (y_move rfl) (fun a w hh => (want_of rfl rfl rfl hh).trans (wTT (by first | rfl | exact decide_eq_true (by omega)))) ?_
        refine ow_yg (y_lss rfl rfl) (fun a w hh => (want_of rfl rfl rfl hh).trans (wTT (by first | rfl | exact decide_eq_true (by omega)))) ?_
        refine ow_yg (y_move rfl) (fun a w hh => (want_of rfl rfl rfl hh).trans (wTT (by first | rfl | exact decide_eq_true (by omega)))) ?_
        refine ow_yg (y_move rfl) (fun a w hh => (want_of rfl rfl rfl hh).trans (wFF (by first | rfl | exact decide_eq_false (by omega)))) ?_
        refine ow_yg (y_gtr rfl rfl) (fun a w hh => (want_of rfl rfl rfl hh).trans (wFF (by first | rfl | exact decide_eq_false (by omega)))) ?_
        refine ow_yg (y_pickF rfl (by first | rfl | exact decide_eq_false (by omega)) rfl) (fun a w hh => (want_of rfl rfl rfl hh).trans (wTT (by first | rfl | exact decide_eq_true (by omega)))) ?_
        refine ow_y (y_pickT rfl (by first | rfl | exact decide_eq_true (by omega)) rfl) ?_
        refine ow_nil ?_
        refine kw_code (fun _ _ h => h) ?_
        refine cw_true rfl (by first | rfl | exact decide_eq_true (by omega)) ?_
        refine cw_seq ?_
        refine cw_region ?_
        refine ow_y (y_assign rfl) ?_
        refine ow_nil ?_
        refine kw_code (fun _ _ h => h) ?_
        refine cw_retG (fun _ _ h => h) rfl (by rw [wordOk, hno (by rw [hw]; simp; omega)]; simp) (by repeat (first | exact Split.nil | apply Split.cons (by repeat (first | exact Fnd.here | apply Fnd.there))))
      · skip
        refine cw_region ?_
        refine ow_y (y_move rfl) ?_
        refine ow_y (y_lss rfl rfl) ?_
        refine ow_y (y_move rfl) ?_
        refine ow_yg (y_move rfl) (fun a w hh => (want_of rfl rfl rfl hh).trans (wFF (by first | rfl | exact decide_eq_false (by omega)))) ?_
        refine ow_yg (y_gtr rfl rfl) (fun a w hh => (want_of rfl rfl rfl hh).trans (wFF (by first | rfl | exact decide_eq_false (by omega)))) ?_
        refine ow_y (y_pickF rfl (by first | rfl | exact decide_eq_false (by omega)) rfl) ?_
        refine ow_y (y_move rfl) ?_
        refine ow_skip rfl (fun a w hh => (want_of rfl rfl rfl hh).trans (wTF (by first | rfl | exact decide_eq_false (by omega)))) ?_
        refine ow_skip rfl (fun a w hh => (want_of rfl rfl rfl hh).trans (wTF (by first | rfl | exact decide_eq_false (by omega)))) ?_
        refine ow_skip rfl (fun a w hh => (want_of rfl rfl rfl hh).trans (wTF (by first | rfl | exact decide_eq_false (by omega)))) ?_
        refine ow_skip rfl (fun a w hh => want_of_undef rfl rfl rfl hh) ?_
        refine ow_skip rfl (fun a w hh => want_of_undef rfl rfl rfl hh) ?_
        refine ow_skip rfl (fun a w hh => (want_of rfl rfl rfl hh).trans (wTF (by first | rfl | exact decide_eq_false (by omega)))) ?_
        refine ow_y (y_pickF rfl (by first | rfl | exact decide_eq_false (by omega)) rfl) ?_
        refine ow_nil ?_
        refine kw_code (fun _ _ h => h) ?_
        refine cw_false rfl (by first | rfl | exact decide_eq_false (by omega)) ?_
        refine cw_skip ?_
        refine kw_code (fun _ _ h => h) ?_
        refine cw_region ?_
        refine ow_y (y_addI rfl rfl (by omega)) ?_
        refine ow_y (y_move rfl) ?_
        refine ow_nil ?_
        refine kw_rnd (fun _ _ h => h) (⟨i + 1, hit, hst (by rw [hw]; simp; omega)⟩) (by first | omega | (simp only; omega)) (by repeat (first | exact Sub.nil | refine Sub.cons rfl ?_)) (by repeat (first | exact Split.nil | apply Split.cons (by repeat (first | exact Fnd.here | apply Fnd.there))))
  · skip
    have hik : i = s.size := by have := of_decide_eq_false hb9; omega
    rw [List.take_of_length_le (by omega)] at hall
    refine cw_exit ?_
    refine kw_code (fun _ _ h => h) ?_
    refine cw_seq ?_
    by_cases he : s = ⟨#[]⟩
    · skip
      refine cw_region ?_
      refine ow_y (y_move rfl) ?_
      refine ow_y (y_str_neqD rfl rfl) ?_
      refine ow_y (y_move rfl) ?_
      refine ow_skip rfl (fun a w hh => (want_of rfl rfl rfl hh).trans (wTF (by simp [he]))) ?_
      refine ow_skip rfl (fun a w hh => (want_of rfl rfl rfl hh).trans (wTF (by simp [he]))) ?_
      refine ow_skip rfl (fun a w hh => (want_of rfl rfl rfl hh).trans (wTF (by simp [he]))) ?_
      refine ow_y (y_pickF rfl (by simp [he]) rfl) ?_
      refine ow_y (y_assign rfl) ?_
      refine ow_nil ?_
      refine kw_code (fun _ _ h => h) ?_
      refine cw_retG (fun _ _ h => h) rfl (by subst he; rfl) (by repeat (first | exact Split.nil | apply Split.cons (by repeat (first | exact Fnd.here | apply Fnd.there))))
    · skip
      refine cw_region ?_
      refine ow_y (y_move rfl) ?_
      refine ow_y (y_str_neqD rfl rfl) ?_
      refine ow_y (y_move rfl) ?_
      refine ow_yg (y_move rfl) (fun a w hh => (want_of rfl rfl rfl hh).trans (wTT (by simp [he]))) ?_
      refine ow_yg (y_len_str F.st9 rfl) (fun a w hh => (want_of rfl rfl rfl hh).trans (wTT (by simp [he]))) ?_
      refine ow_yg (y_leq rfl rfl) (fun a w hh => (want_of rfl rfl rfl hh).trans (wTT (by simp [he]))) ?_
      refine ow_y (y_pickT rfl (by simp [he]) rfl) ?_
      refine ow_y (y_assign rfl) ?_
      refine ow_nil ?_
      refine kw_code (fun _ _ h => h) ?_
      refine cw_retG (fun _ _ h => h) rfl (by rw [wordOk_eq s hall]; have : 1 ≤ s.size := by { rcases Nat.eq_zero_or_pos s.size with h | h; { exact absurd (Go.WideShapes.bytes_inj (a := s) (b := ⟨#[]⟩) (List.eq_nil_of_length_eq_zero (by omega))) he }; exact h }; simp [this]; omega) (by repeat (first | exact Split.nil | apply Split.cons (by repeat (first | exact Fnd.here | apply Fnd.there))))
end Go.Proofs.YtoolmpfkbaffcaaDoor
