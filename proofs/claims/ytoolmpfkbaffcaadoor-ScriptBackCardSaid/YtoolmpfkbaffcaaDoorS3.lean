/- Part of the proof; no statement of its own: S3. -/
import Derived.Test.YtoolmpfkbaffcaaDoorFacts
import Derived.Test.YtoolmpfkbaffcaaDoorS2
set_option linter.all false
set_option maxRecDepth 4000
set_option maxHeartbeats 4000000
namespace Go.Proofs.YtoolmpfkbaffcaaDoor
open Go.Sl Go.Sc
theorem rword_spec (s : ByteArray) (hs : s.size ≤ maxLen) : Does Tryd.prog 15 #[.string s] [] (Gives (.bool (wordOk s)) []) := by
  have hm := hs
  simp only [maxLen] at hs
  have hsl : s.data.toList.length = s.size := by simp
  refine does_enter Tryd.func15 rfl Tryd.ntmps15 rfl (fun R w0 => ?_)
  simp only [envOf, List.cons_append, List.nil_append]
  refine cw_seq ?_
  refine cw_region ?_
  refine ow_y (y_assign rfl) ?_
  refine ow_nil ?_
  refine kw_code (fun _ _ h => h) ?_
  refine cw_seq ?_
  refine cw_seq ?_
  by_cases h0 : (s.size : Int) < 1
  · skip
    refine cw_region ?_
    refine ow_y (y_move rfl) ?_
    refine ow_y (y_len_str F.st9 rfl) ?_
    refine ow_y (y_lss rfl rfl) ?_
    refine ow_y (y_move rfl) ?_
    refine ow_skip rfl (fun a w hh => (want_of rfl rfl rfl hh).trans (wFT (by first | rfl | exact decide_eq_true (by omega)))) ?_
    refine ow_skip rfl (fun a w hh => (want_of rfl rfl rfl hh).trans (wFT (by first | rfl | exact decide_eq_true (by omega)))) ?_
    refine ow_skip rfl (fun a w hh => (want_of rfl rfl rfl hh).trans (wFT (by first | rfl | exact decide_eq_true (by omega)))) ?_
    refine ow_y (y_pickT rfl (by first | rfl | exact decide_eq_true (by omega)) rfl) ?_
    refine ow_nil ?_
    refine kw_code (fun _ _ h => h) ?_
    refine cw_true rfl (by first | rfl | exact decide_eq_true (by omega)) ?_
    refine cw_seq ?_
    refine cw_region ?_
    refine ow_y (y_assign rfl) ?_
    refine ow_nil ?_
    refine kw_code (fun _ _ h => h) ?_
    refine cw_retG (fun _ _ h => h) rfl (by rw [wordOk, decide_eq_false (by omega)]; rfl) (by repeat (first | exact Split.nil | apply Split.cons (by repeat (first | exact Fnd.here | apply Fnd.there))))
  · skip
    refine cw_region ?_
    refine ow_y (y_move rfl) ?_
    refine ow_y (y_len_str F.st9 rfl) ?_
    refine ow_y (y_lss rfl rfl) ?_
    refine ow_y (y_move rfl) ?_
    refine ow_yg (y_move rfl) (fun a w hh => (want_of rfl rfl rfl hh).trans (wFF (by first | rfl | exact decide_eq_false (by omega)))) ?_
    refine ow_yg (y_len_str F.st9 rfl) (fun a w hh => (want_of rfl rfl rfl hh).trans (wFF (by first | rfl | exact decide_eq_false (by omega)))) ?_
    refine ow_yg (y_gtr rfl rfl) (fun a w hh => (want_of rfl rfl rfl hh).trans (wFF (by first | rfl | exact decide_eq_false (by omega)))) ?_
    refine ow_y (y_pickF rfl (by first | rfl | exact decide_eq_false (by omega)) rfl) ?_
    refine ow_nil ?_
    refine kw_code (fun _ _ h => h) ?_
    refine cw_if rfl (fun hb11 => ?_) (fun hb11 => ?_)
    · skip
      refine cw_seq ?_
      refine cw_region ?_
      refine ow_y (y_assign rfl) ?_
      refine ow_nil ?_
      refine kw_code (fun _ _ h => h) ?_
      refine cw_retG (fun _ _ h => h) rfl (by have := of_decide_eq_true hb11; rw [wordOk, decide_eq_false (p := s.size ≤ 16) (by omega)]; simp) (by repeat (first | exact Split.nil | apply Split.cons (by repeat (first | exact Fnd.here | apply Fnd.there))))
    · skip
      refine cw_skip ?_
      refine kw_code (fun _ _ h => h) ?_
      refine cw_seq ?_
      refine cw_seq ?_
      refine cw_region ?_
      refine ow_y (y_assign rfl) ?_
      refine ow_nil ?_
      refine kw_code (fun _ _ h => h) ?_
      refine cw_block ?_
      refine cw_loop (X := {i : Nat // i ≤ s.size ∧ (s.data.toList.take i).all isW = true}) (fun x => [(0, .string s), (3, .int .i64 x.1)]) (fun x => [R]) (fun x => s.size - x.1) ⟨0, by omega, rfl⟩ (by repeat (first | exact Sub.nil | refine Sub.cons rfl ?_)) (by repeat (first | exact Split.nil | apply Split.cons (by repeat (first | exact Fnd.here | apply Fnd.there)))) ?_
      rintro ⟨i, hi, hall⟩ m0 hm0
      try simp only at hm0
      try dsimp only
      skip
      refine cw_seq ?_
      refine cw_seq ?_
      refine cw_region ?_
      refine ow_y (y_move rfl) ?_
      refine ow_y (y_move rfl) ?_
      refine ow_y (y_len_str F.st9 rfl) ?_
      refine ow_y (y_lss rfl rfl) ?_
      refine ow_nil ?_
      refine kw_code (fun _ _ h => h) ?_
      refine cw_if rfl (fun hb15 => ?_) (fun hb15 => ?_)
      · skip
        have hit : i < s.size := by have := of_decide_eq_true hb15; omega
        have hil : i < s.data.toList.length := by omega
        have hst := all_step s.data.toList i hil hall
        have hno := all_not s.data.toList i hil
        have hw := isW_int (s.data.toList[i]'hil)
        have hu : s.data.toList[i]? = some (s.data.toList[i]'hil) := List.getElem?_eq_getElem hil
        generalize s.data.toList[i]'hil = c at hst hno hw hu
        refine cw_skip ?_
        refine kw_code (fun _ _ h => h) ?_
        refine cw_seq ?_
        refine cw_block ?_
        refine cw_seq ?_
        by_cases h1 : (c.toNat : Int) < 97
        · skip
          by_cases h2 : (c.toNat : Int) < 48
          · skip
            refine cw_region ?_
            refine ow_y (y_move rfl) ?_
            refine ow_y (y_move rfl) ?_
            refine ow_y (y_byte F.st9 rfl rfl (by omega) (u := c) hu) ?_
            refine ow_y (y_geq rfl rfl) ?_
            refine ow_y (y_move rfl) ?_
            refine ow_skip rfl (fun a w hh => (want_of rfl rfl rfl hh).trans (wTF (by first | rfl | exact decide_eq_false (by omega)))) ?_
            refine ow_skip rfl (fun a w hh => (want_of rfl rfl rfl hh).trans (wTF (by first | rfl | exact decide_eq_false (by omega)))) ?_
            refine ow_skip rfl (fun a w hh => (want_of rfl rfl rfl hh).trans (wTF (by first | rfl | exact decide_eq_false (by omega)))) ?_
            refine ow_skip rfl (fun a w hh => (want_of rfl rfl rfl hh).trans (wTF (by first | rfl | exact decide_eq_false (by omega)))) ?_
            refine ow_y (y_pickF rfl (by first | rfl | exact decide_eq_false (by omega)) rfl) ?_
            refine ow_y (y_move rfl) ?_
            refine ow_yg (y_move rfl) (fun a w hh => (want_of rfl rfl rfl hh).trans (wFF (by first | rfl | exact decide_eq_false (by omega)))) ?_
            refine ow_yg (y_move rfl) (fun a w hh => (want_of rfl rfl rfl hh).trans (wFF (by first | rfl | exact decide_eq_false (by omega)))) ?_
            refine ow_yg (y_byte F.st9 rfl rfl (by omega) (u := c) hu) (fun a w hh => (want_of rfl rfl rfl hh).trans (wFF (by first | rfl | exact decide_eq_false (by omega)))) ?_
            refine ow_yg (y_geq rfl rfl) (fun a w hh => (want_of rfl rfl rfl hh).trans (wFF (by first | rfl | exact decide_eq_false (by omega)))) ?_
            refine ow_yg (y_move rfl) (fun a w hh => (want_of rfl rfl rfl hh).trans (wFF (by first | rfl | exact decide_eq_false (by omega)))) ?_
            refine ow_skip rfl (fun a w hh => (want_of rfl rfl rfl hh).trans (wTF (by first | rfl | exact decide_eq_false (by omega)))) ?_
            refine ow_skip rfl (fun a w hh => (want_of rfl rfl rfl hh).trans (wTF (by first | rfl | exact decide_eq_false (by omega)))) ?_
            refine ow_skip rfl (fun a w hh => (want_of rfl rfl rfl hh).trans (wTF (by first | rfl | exact decide_eq_false (by omega)))) ?_
            refine ow_skip rfl (fun a w hh => (want_of rfl rfl rfl hh).trans (wTF (by first | rfl | exact decide_eq_false (by omega)))) ?_
            refine ow_yg (y_pickF rfl (by first | rfl | exact decide_eq_false (by omega)) rfl) (fun a w hh => (want_of rfl rfl rfl hh).trans (wFF (by first | rfl | exact decide_eq_false (by omega)))) ?_
            refine ow_y (y_pickF rfl (by first | rfl | exact decide_eq_false (by omega)) rfl) ?_
            refine ow_y (y_not rfl) ?_
            refine ow_nil ?_
            refine kw_code (fun _ _ h => h) ?_
            refine cw_true rfl (by first | rfl | exact decide_eq_true (by omega)) ?_
            refine cw_seq ?_
            refine cw_region ?_
            refine ow_y (y_assign rfl) ?_
            refine ow_nil ?_
            refine kw_code (fun _ _ h => h) ?_
            refine cw_retG (fun _ _ h => h) rfl (by rw [wordOk, hno (by rw [hw]; simp; omega)]; simp) (by repeat (first | exact Split.nil | apply Split.cons (by repeat (first | exact Fnd.here | apply Fnd.there))))
          · skip
            refine cw_region ?_
            refine ow_y (y_move rfl) ?_
            refine ow_y (y_move rfl) ?_
            refine ow_y (y_byte F.st9 rfl rfl (by omega) (u := c) hu) ?_
            refine ow_y (y_geq rfl rfl) ?_
            refine ow_y (y_move rfl) ?_
            refine ow_skip rfl (fun a w hh => (want_of rfl rfl rfl hh).trans (wTF (by first | rfl | exact decide_eq_false (by omega)))) ?_
            refine ow_skip rfl (fun a w hh => (want_of rfl rfl rfl hh).trans (wTF (by first | rfl | exact decide_eq_false (by omega)))) ?_
            refine ow_skip rfl (fun a w hh => (want_of rfl rfl rfl hh).trans (wTF (by first | rfl | exact decide_eq_false (by omega)))) ?_
            refine ow_skip rfl (fun a w hh => (want_of rfl rfl rfl hh).trans (wTF (by first | rfl | exact decide_eq_false (by omega)))) ?_
            refine ow_y (y_pickF rfl (by first | rfl | exact decide_eq_false (by omega)) rfl) ?_
            refine ow_y (y_move rfl) ?_
            refine ow_yg (y_move rfl) (fun a w hh => (want_of rfl rfl rfl hh).trans (wFF (by first | rfl | exact decide_eq_false (by omega)))) ?_
            refine ow_yg (y_move rfl) (fun a w hh => (want_of rfl rfl rfl hh).trans (wFF (by first | rfl | exact decide_eq_false (by omega)))) ?_
            refine ow_yg (y_byte F.st9 rfl rfl (by omega) (u := c) hu) (fun a w hh => (want_of rfl rfl rfl hh).trans (wFF (by first | rfl | exact decide_eq_false (by omega)))) ?_
            refine ow_yg (y_geq rfl rfl) (fun a w hh => (want_of rfl rfl rfl hh).trans (wFF (by first | rfl | exact decide_eq_false (by omega)))) ?_
            refine ow_yg (y_move rfl) (fun a w hh => (want_of rfl rfl rfl hh).trans (wFF (by first | rfl | exact decide_eq_false (by omega)))) ?_
            refine ow_yg (y_move rfl) (fun a w hh => (want_of rfl rfl rfl hh).trans (wTT (by first | rfl | exact decide_eq_true (by omega)))) ?_
            refine ow_yg (y_move rfl) (fun a w hh => (want_of rfl rfl rfl hh).trans (wTT (by first | rfl | exact decide_eq_true (by omega)))) ?_
            refine ow_yg (y_byte F.st9 rfl rfl (by omega) (u := c) hu) (fun a w hh => (want_of rfl rfl rfl hh).trans (wTT (by first | rfl | exact decide_eq_true (by omega)))) ?_
            refine ow_yg (y_leq rfl rfl) (fun a w hh => (want_of rfl rfl rfl hh).trans (wTT (by first | rfl | exact decide_eq_true (by omega)))) ?_
            refine ow_yg (y_pickT rfl (by first | rfl | exact decide_eq_true (by omega)) rfl) (fun a w hh => (want_of rfl rfl rfl hh).trans (wFF (by first | rfl | exact decide_eq_false (by omega)))) ?_
            refine ow_y (y_pickF rfl (by first | rfl | exact decide_eq_false (by omega)) rfl) ?_
            refine ow_y (y_not rfl) ?_
            refine ow_nil ?_
            refine kw_code (fun _ _ h => h) ?_
            refine cw_if rfl (fun hb40 => ?_) (fun hb40 => ?_)
            · skip
              refine cw_seq ?_
              refine cw_region ?_
              refine ow_y (y_assign rfl) ?_
              refine ow_nil ?_
              refine kw_code (fun _ _ h => h) ?_
              refine cw_retG (fun _ _ h => h) rfl (by have := hb40; rw [Bool.not_eq_true', decide_eq_false_iff_not] at this; rw [wordOk, hno (by rw [hw]; simp; omega)]; simp) (by repeat (first | exact Split.nil | apply Split.cons (by repeat (first | exact Fnd.here | apply Fnd.there))))
            · skip
              refine cw_skip ?_
              refine kw_code (fun _ _ h => h) ?_
              refine cw_region ?_
              refine ow_y (y_move rfl) ?_
              refine ow_y (y_addI rfl rfl (by omega)) ?_
              refine ow_y (y_assign rfl) ?_
              refine ow_nil ?_
              refine kw_rnd (fun _ _ h => h) (⟨i + 1, hit, hst (by rw [hw]; have := hb40; rw [Bool.not_eq_false', decide_eq_true_iff] at this; simp; omega)⟩) (by first | omega | (simp only; omega)) (by repeat (first | exact Sub.nil | refine Sub.cons rfl ?_)) (by repeat (first | exact Split.nil | apply Split.cons (by repeat (first | exact Fnd.here | apply Fnd.there))))
        · skip
          by_cases h2 : (122 : Int) < c.toNat
          · skip
            refine cw_region ?_
            refine ow_y (y_move rfl) ?_
            refine ow_y (y_move rfl) ?_
            refine ow_y (y_byte F.st9 rfl rfl (by omega) (u := c) hu) ?_
            refine ow_y (y_geq rfl rfl) ?_
            refine ow_y (y_move rfl) ?_
            refine ow_yg (y_move rfl) (fun a w hh => (want_of rfl rfl rfl hh).trans (wTT (by first | rfl | exact decide_eq_true (by omega)))) ?_
            refine ow_yg (y_move rfl) (fun a w hh => (want_of rfl rfl rfl hh).trans (wTT (by first | rfl | exact decide_eq_true (by omega)))) ?_
            refine ow_yg (y_byte F.st9 rfl rfl (by omega) (u := c) hu) (fun a w hh => (want_of rfl rfl rfl hh).trans (wTT (by first | rfl | exact decide_eq_true (by omega)))) ?_
            refine ow_yg (y_leq rfl rfl) (fun a w hh => (want_of rfl rfl rfl hh).trans (wTT (by first | rfl | exact decide_eq_true (by omega)))) ?_
            refine ow_y (y_pickT rfl (by first | rfl | exact decide_eq_true (by omega)) rfl) ?_
            refine ow_y (y_move rfl) ?_
            refine ow_yg (y_move rfl) (fun a w hh => (want_of rfl rfl rfl hh).trans (wFF (by first | rfl | exact decide_eq_false (by omega)))) ?_
            refine ow_yg (y_move rfl) (fun a w hh => (want_of rfl rfl rfl hh).trans (wFF (by first | rfl | exact decide_eq_false (by omega)))) ?_
            refine ow_yg (y_byte F.st9 rfl rfl (by omega) (u := c) hu) (fun a w hh => (want_of rfl rfl rfl hh).trans (wFF (by first | rfl | exact decide_eq_false (by omega)))) ?_
            refine ow_yg (y_geq rfl rfl) (fun a w hh => (want_of rfl rfl rfl hh).trans (wFF (by first | rfl | exact decide_eq_false (by omega)))) ?_
            refine ow_yg (y_move rfl) (fun a w hh => (want_of rfl rfl rfl hh).trans (wFF (by first | rfl | exact decide_eq_false (by omega)))) ?_
            refine ow_yg (y_move rfl) (fun a w hh => (want_of rfl rfl rfl hh).trans (wTT (by first | rfl | exact decide_eq_true (by omega)))) ?_
            refine ow_yg (y_move rfl) (fun a w hh => (want_of rfl rfl rfl hh).trans (wTT (by first | rfl | exact decide_eq_true (by omega)))) ?_
            refine ow_yg (y_byte F.st9 rfl rfl (by omega) (u := c) hu) (fun a w hh => (want_of rfl rfl rfl hh).trans (wTT (by first | rfl | exact decide_eq_true (by omega)))) ?_
            refine ow_yg (y_leq rfl rfl) (fun a w hh => (want_of rfl rfl rfl hh).trans (wTT (by first | rfl | exact decide_eq_true (by omega)))) ?_
            refine ow_yg (y_pickT rfl (by first | rfl | exact decide_eq_true (by omega)) rfl) (fun a w hh => (want_of rfl rfl rfl hh).trans (wFF (by first | rfl | exact decide_eq_false (by omega)))) ?_
            refine ow_y (y_pickF rfl (by first | rfl | exact decide_eq_false (by omega)) rfl) ?_
            refine ow_y (y_not rfl) ?_
            refine ow_nil ?_
            refine kw_code (fun _ _ h => h) ?_
            refine cw_true rfl (by rw [decide_eq_false (by omega)]; rfl) ?_
            refine cw_seq ?_
            refine cw_region ?_
            refine ow_y (y_assign rfl) ?_
            refine ow_nil ?_
            refine kw_code (fun _ _ h => h) ?_
            refine cw_retG (fun _ _ h => h) rfl (by rw [wordOk, hno (by rw [hw]; simp; omega)]; simp) (by repeat (first | exact Split.nil | apply Split.cons (by repeat (first | exact Fnd.here | apply Fnd.there))))
          · skip
            refine cw_region ?_
            refine ow_y (y_move rfl) ?_
            refine ow_y (y_move rfl) ?_
            refine ow_y (y_byte F.st9 rfl rfl (by omega) (u := c) hu) ?_
            refine ow_y (y_geq rfl rfl) ?_
            refine ow_y (y_move rfl) ?_
            refine ow_yg (y_move rfl) (fun a w hh => (want_of rfl rfl rfl hh).trans (wTT (by first | rfl | exact decide_eq_true (by omega)))) ?_
            refine ow_yg (y_move rfl) (fun a w hh => (want_of rfl rfl rfl hh).trans (wTT (by first | rfl | exact decide_eq_true (by omega)))) ?_
            refine ow_yg (y_byte F.st9 rfl rfl (by omega) (u := c) hu) (fun a w hh => (want_of rfl rfl rfl hh).trans (wTT (by first | rfl | exact decide_eq_true (by omega)))) ?_
            refine ow_yg (y_leq rfl rfl) (fun a w hh => (want_of rfl rfl rfl hh).trans (wTT (by first | rfl | exact decide_eq_true (by omega)))) ?_
            refine ow_y (y_pickT rfl (by first | rfl | exact decide_eq_true (by omega)) rfl) ?_
            refine ow_y (y_move rfl) ?_
            refine ow_skip rfl (fun a w hh => (want_of rfl rfl rfl hh).trans (wFT (by first | rfl | exact decide_eq_true (by omega)))) ?_
            refine ow_skip rfl (fun a w hh => (want_of rfl rfl rfl hh).trans (wFT (by first | rfl | exact decide_eq_true (by omega)))) ?_
            refine ow_skip rfl (fun a w hh => (want_of rfl rfl rfl hh).trans (wFT (by first | rfl | exact decide_eq_true (by omega)))) ?_
            refine ow_skip rfl (fun a w hh => (want_of rfl rfl rfl hh).trans (wFT (by first | rfl | exact decide_eq_true (by omega)))) ?_
            refine ow_skip rfl (fun a w hh => (want_of rfl rfl rfl hh).trans (wFT (by first | rfl | exact decide_eq_true (by omega)))) ?_
            refine ow_skip rfl (fun a w hh => want_of_undef rfl rfl rfl hh) ?_
            refine ow_skip rfl (fun a w hh => want_of_undef rfl rfl rfl hh) ?_
            refine ow_skip rfl (fun a w hh => want_of_undef rfl rfl rfl hh) ?_
            refine ow_skip rfl (fun a w hh => want_of_undef rfl rfl rfl hh) ?_
            refine ow_skip rfl (fun a w hh => (want_of rfl rfl rfl hh).trans (wFT (by first | rfl | exact decide_eq_true (by omega)))) ?_
            refine ow_y (y_pickT rfl (by first | rfl | exact decide_eq_true (by omega)) rfl) ?_
            refine ow_y (y_not rfl) ?_
            refine ow_nil ?_
            refine kw_code (fun _ _ h => h) ?_
            refine cw_false rfl rfl ?_
            refine cw_skip ?_
            refine kw_code (fun _ _ h => h) ?_
            refine cw_region ?_
            refine ow_y (y_move rfl) ?_
            refine ow_y (y_addI rfl rfl (by omega)) ?_
            refine ow_y (y_assign rfl) ?_
            refine ow_nil ?_
            refine kw_rnd (fun _ _ h => h) (⟨i + 1, hit, hst (by rw [hw]; simp; omega)⟩) (by first | omega | (simp only; omega)) (by repeat (first | exact Sub.nil | refine Sub.cons rfl ?_)) (by repeat (first | exact Split.nil | apply Split.cons (by repeat (first | exact Fnd.here | apply Fnd.there))))
      · skip
        have hik : i = s.size := by have := of_decide_eq_false hb15; omega
        have h16 := of_decide_eq_false hb11
        rw [List.take_of_length_le (by omega)] at hall
        refine cw_exit ?_
        refine kw_code (fun _ _ h => h) ?_
        refine cw_seq ?_
        refine cw_region ?_
        refine ow_y (y_assign rfl) ?_
        refine ow_nil ?_
        refine kw_code (fun _ _ h => h) ?_
        refine cw_retG (fun _ _ h => h) rfl (by rw [wordOk_eq s hall, decide_eq_true (p := 1 ≤ s.size) (by omega), decide_eq_true (p := s.size ≤ 16) (by omega)]; rfl) (by repeat (first | exact Split.nil | apply Split.cons (by repeat (first | exact Fnd.here | apply Fnd.there))))
end Go.Proofs.YtoolmpfkbaffcaaDoor
