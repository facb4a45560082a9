/- Part of the proof; no statement of its own: S5. -/
import Derived.Test.YtoolmpfkbaffcaaDoorFacts
import Derived.Test.YtoolmpfkbaffcaaDoorS4
import Derived.Lib.AtoiAllCases
set_option linter.all false
set_option maxRecDepth 4000
set_option maxHeartbeats 4000000
namespace Go.Proofs.YtoolmpfkbaffcaaDoor
open Go.Sl Go.Sc
def numV (s : ByteArray) : Value := match lnNum s with
  | some v => .tuple #[.int .i64 v, .int .i64 0]
  | none => .tuple #[.int .i64 0, .int .i64 1]
theorem sb_ne (l : List UInt8) (s : ByteArray) : (decide (sb l = s)) = decide (l = s.data.toList) := by
  congr 1
  apply propext
  constructor
  · rintro rfl; simp [sb]
  · intro h; exact Go.WideShapes.bytes_inj (by simpa [sb] using h)
theorem number_spec {W : World} (hW : ShW W) (s : ByteArray) (hs : s.size ≤ 1000000) : Does Tryd.prog 12 #[.string s] [whole W] (Gives (numV s) [whole W]) := by
  by_cases hA : ∃ v, Lib.atoiAll s.data.toList = .ok v
  · obtain ⟨v, hA⟩ := hA
    have hb := Lib.atoiAll_bounds hA
    by_cases hI : Lib.itoa v = s.data.toList
    · skip
      refine does_enter Tryd.func12 rfl Tryd.ntmps12 rfl (fun R w0 => ?_)
      simp only [envOf, List.cons_append, List.nil_append]
      refine cw_seq ?_
      refine cw_region ?_
      refine ow_y (y_assign rfl) ?_
      refine ow_y (y_assign rfl) ?_
      refine ow_nil ?_
      refine kw_code (fun _ _ h => h) ?_
      refine cw_seq ?_
      refine cw_region ?_
      refine ow_y (y_move rfl) ?_
      refine ow_gives rfl F.hb25 rfl (atoi_ok s hs v hA) (by repeat (first | exact Split.nil | apply Split.cons (by repeat (first | exact Fnd.here | apply Fnd.there)))) ?_
      simp only [List.cons_append, List.nil_append]
      refine ow_y (y_move rfl) ?_
      refine ow_y (y_ext rfl rfl) ?_
      refine ow_y (y_ext rfl rfl) ?_
      refine ow_y (y_assign rfl) ?_
      refine ow_y (y_assign rfl) ?_
      refine ow_nil ?_
      refine kw_code (fun _ _ h => h) ?_
      refine cw_seq ?_
      refine cw_seq ?_
      by_cases h1 : v > 1000000
      · skip
        refine cw_region ?_
        refine ow_y (y_move rfl) ?_
        refine ow_y (y_noErr (by kernel_rfl) rfl) ?_
        refine ow_y (y_move rfl) ?_
        refine ow_yg (y_move rfl) (fun a w hh => (want_of rfl rfl rfl hh).trans (wFF rfl)) ?_
        refine ow_want (fun a w hh => (want_of rfl rfl rfl hh).trans (wFF rfl)) ?_
        refine ow_gives rfl F.hb24 rfl (itoa_does hW v hb.1 hb.2) (by repeat (first | exact Split.nil | apply Split.cons (by repeat (first | exact Fnd.here | apply Fnd.there)))) ?_
        simp only [List.cons_append, List.nil_append]
        refine ow_yg (y_move rfl) (fun a w hh => (want_of rfl rfl rfl hh).trans (wFF rfl)) ?_
        refine ow_yg (y_str_neqD rfl rfl) (fun a w hh => (want_of rfl rfl rfl hh).trans (wFF rfl)) ?_
        refine ow_y (y_pickF rfl rfl rfl) ?_
        refine ow_y (y_move rfl) ?_
        refine ow_yg (y_move rfl) (fun a w hh => (want_of rfl rfl rfl hh).trans (wFF (by rw [sb_ne, decide_eq_true hI]; rfl))) ?_
        refine ow_yg (y_gtr rfl rfl) (fun a w hh => (want_of rfl rfl rfl hh).trans (wFF (by rw [sb_ne, decide_eq_true hI]; rfl))) ?_
        refine ow_y (y_pickF rfl (by rw [sb_ne, decide_eq_true hI]; rfl) rfl) ?_
        refine ow_y (y_move rfl) ?_
        refine ow_skip rfl (fun a w hh => (want_of rfl rfl rfl hh).trans (wFT (decide_eq_true (by omega)))) ?_
        refine ow_skip rfl (fun a w hh => (want_of rfl rfl rfl hh).trans (wFT (decide_eq_true (by omega)))) ?_
        refine ow_y (y_pickT rfl (decide_eq_true (by omega)) rfl) ?_
        refine ow_nil ?_
        refine kw_code (fun _ _ h => h) ?_
        refine cw_true rfl (by first | rfl | exact decide_eq_true (by omega)) ?_
        refine cw_seq ?_
        refine cw_region ?_
        refine ow_y (y_assign rfl) ?_
        refine ow_y (y_assign rfl) ?_
        refine ow_nil ?_
        refine kw_code (fun _ _ h => h) ?_
        refine cw_retG (fun _ _ h => h) rfl (by simp only [numV, lnNum, hA, hI]; rw [if_neg (by omega)]) (by repeat (first | exact Split.nil | apply Split.cons (by repeat (first | exact Fnd.here | apply Fnd.there))))
      · skip
        refine cw_region ?_
        refine ow_y (y_move rfl) ?_
        refine ow_y (y_noErr (by kernel_rfl) rfl) ?_
        refine ow_y (y_move rfl) ?_
        refine ow_yg (y_move rfl) (fun a w hh => (want_of rfl rfl rfl hh).trans (wFF rfl)) ?_
        refine ow_want (fun a w hh => (want_of rfl rfl rfl hh).trans (wFF rfl)) ?_
        refine ow_gives rfl F.hb24 rfl (itoa_does hW v hb.1 hb.2) (by repeat (first | exact Split.nil | apply Split.cons (by repeat (first | exact Fnd.here | apply Fnd.there)))) ?_
        simp only [List.cons_append, List.nil_append]
        refine ow_yg (y_move rfl) (fun a w hh => (want_of rfl rfl rfl hh).trans (wFF rfl)) ?_
        refine ow_yg (y_str_neqD rfl rfl) (fun a w hh => (want_of rfl rfl rfl hh).trans (wFF rfl)) ?_
        refine ow_y (y_pickF rfl rfl rfl) ?_
        refine ow_y (y_move rfl) ?_
        refine ow_yg (y_move rfl) (fun a w hh => (want_of rfl rfl rfl hh).trans (wFF (by rw [sb_ne, decide_eq_true hI]; rfl))) ?_
        refine ow_yg (y_gtr rfl rfl) (fun a w hh => (want_of rfl rfl rfl hh).trans (wFF (by rw [sb_ne, decide_eq_true hI]; rfl))) ?_
        refine ow_y (y_pickF rfl (by rw [sb_ne, decide_eq_true hI]; rfl) rfl) ?_
        refine ow_y (y_move rfl) ?_
        refine ow_yg (y_move rfl) (fun a w hh => (want_of rfl rfl rfl hh).trans (wFF (decide_eq_false (by omega)))) ?_
        refine ow_yg (y_lss rfl rfl) (fun a w hh => (want_of rfl rfl rfl hh).trans (wFF (decide_eq_false (by omega)))) ?_
        refine ow_y (y_pickF rfl (decide_eq_false (by omega)) rfl) ?_
        refine ow_nil ?_
        refine kw_code (fun _ _ h => h) ?_
        refine cw_if rfl (fun hb26 => ?_) (fun hb26 => ?_)
        · skip
          refine cw_seq ?_
          refine cw_region ?_
          refine ow_y (y_assign rfl) ?_
          refine ow_y (y_assign rfl) ?_
          refine ow_nil ?_
          refine kw_code (fun _ _ h => h) ?_
          refine cw_retG (fun _ _ h => h) rfl (by have h2 := of_decide_eq_true hb26; simp only [numV, lnNum, hA, hI]; rw [if_neg (by omega)]) (by repeat (first | exact Split.nil | apply Split.cons (by repeat (first | exact Fnd.here | apply Fnd.there))))
        · skip
          refine cw_skip ?_
          refine kw_code (fun _ _ h => h) ?_
          refine cw_seq ?_
          refine cw_region ?_
          refine ow_y (y_move rfl) ?_
          refine ow_y (y_assign rfl) ?_
          refine ow_y (y_assign rfl) ?_
          refine ow_nil ?_
          refine kw_code (fun _ _ h => h) ?_
          refine cw_retG (fun _ _ h => h) rfl (by have h2 := of_decide_eq_false hb26; simp only [numV, lnNum, hA, hI]; rw [if_pos ⟨trivial, by omega, by omega⟩]) (by repeat (first | exact Split.nil | apply Split.cons (by repeat (first | exact Fnd.here | apply Fnd.there))))
    · skip
      refine does_enter Tryd.func12 rfl Tryd.ntmps12 rfl (fun R w0 => ?_)
      simp only [envOf, List.cons_append, List.nil_append]
      refine cw_seq ?_
      refine cw_region ?_
      refine ow_y (y_assign rfl) ?_
      refine ow_y (y_assign rfl) ?_
      refine ow_nil ?_
      refine kw_code (fun _ _ h => h) ?_
      refine cw_seq ?_
      refine cw_region ?_
      refine ow_y (y_move rfl) ?_
      refine ow_gives rfl F.hb25 rfl (atoi_ok s hs v hA) (by repeat (first | exact Split.nil | apply Split.cons (by repeat (first | exact Fnd.here | apply Fnd.there)))) ?_
      simp only [List.cons_append, List.nil_append]
      refine ow_y (y_move rfl) ?_
      refine ow_y (y_ext rfl rfl) ?_
      refine ow_y (y_ext rfl rfl) ?_
      refine ow_y (y_assign rfl) ?_
      refine ow_y (y_assign rfl) ?_
      refine ow_nil ?_
      refine kw_code (fun _ _ h => h) ?_
      refine cw_seq ?_
      refine cw_seq ?_
      refine cw_region ?_
      refine ow_y (y_move rfl) ?_
      refine ow_y (y_noErr (by kernel_rfl) rfl) ?_
      refine ow_y (y_move rfl) ?_
      refine ow_yg (y_move rfl) (fun a w hh => (want_of rfl rfl rfl hh).trans (wFF rfl)) ?_
      refine ow_want (fun a w hh => (want_of rfl rfl rfl hh).trans (wFF rfl)) ?_
      refine ow_gives rfl F.hb24 rfl (itoa_does hW v hb.1 hb.2) (by repeat (first | exact Split.nil | apply Split.cons (by repeat (first | exact Fnd.here | apply Fnd.there)))) ?_
      simp only [List.cons_append, List.nil_append]
      refine ow_yg (y_move rfl) (fun a w hh => (want_of rfl rfl rfl hh).trans (wFF rfl)) ?_
      refine ow_yg (y_str_neqD rfl rfl) (fun a w hh => (want_of rfl rfl rfl hh).trans (wFF rfl)) ?_
      refine ow_y (y_pickF rfl rfl rfl) ?_
      refine ow_y (y_move rfl) ?_
      refine ow_skip rfl (fun a w hh => (want_of rfl rfl rfl hh).trans (wFT (by rw [sb_ne, decide_eq_false hI]; rfl))) ?_
      refine ow_skip rfl (fun a w hh => (want_of rfl rfl rfl hh).trans (wFT (by rw [sb_ne, decide_eq_false hI]; rfl))) ?_
      refine ow_y (y_pickT rfl (by rw [sb_ne, decide_eq_false hI]; rfl) rfl) ?_
      refine ow_y (y_move rfl) ?_
      refine ow_skip rfl (fun a w hh => (want_of rfl rfl rfl hh).trans (wFT rfl)) ?_
      refine ow_skip rfl (fun a w hh => (want_of rfl rfl rfl hh).trans (wFT rfl)) ?_
      refine ow_y (y_pickT rfl rfl rfl) ?_
      refine ow_nil ?_
      refine kw_code (fun _ _ h => h) ?_
      refine cw_true rfl (by first | rfl | exact decide_eq_true (by omega)) ?_
      refine cw_seq ?_
      refine cw_region ?_
      refine ow_y (y_assign rfl) ?_
      refine ow_y (y_assign rfl) ?_
      refine ow_nil ?_
      refine kw_code (fun _ _ h => h) ?_
      refine cw_retG (fun _ _ h => h) rfl (by simp only [numV, lnNum, hA]; rw [if_neg (by simp [hI])]) (by repeat (first | exact Split.nil | apply Split.cons (by repeat (first | exact Fnd.here | apply Fnd.there))))
  · have hN : lnNum s = none := by
      unfold lnNum; split
      · rename_i v h; exact absurd ⟨v, h⟩ hA
      · rfl
    refine does_enter Tryd.func12 rfl Tryd.ntmps12 rfl (fun R w0 => ?_)
    simp only [envOf, List.cons_append, List.nil_append]
    refine cw_seq ?_
    refine cw_region ?_
    refine ow_y (y_assign rfl) ?_
    refine ow_y (y_assign rfl) ?_
    refine ow_nil ?_
    refine kw_code (fun _ _ h => h) ?_
    refine cw_seq ?_
    refine cw_region ?_
    refine ow_y (y_move rfl) ?_
    refine ow_givesE rfl F.hb25 rfl (atoi_no hW s hs (fun v h => hA ⟨v, h⟩)) (by repeat (first | exact Split.nil | apply Split.cons (by repeat (first | exact Fnd.here | apply Fnd.there)))) ?_
    rintro ⟨n, tp, x⟩ _
    simp only [List.cons_append, List.nil_append]
    refine ow_y (y_move rfl) ?_
    refine ow_y (y_ext rfl rfl) ?_
    refine ow_y (y_ext rfl rfl) ?_
    refine ow_y (y_assign rfl) ?_
    refine ow_y (y_assign rfl) ?_
    refine ow_nil ?_
    refine kw_code (fun _ _ h => h) ?_
    refine cw_seq ?_
    refine cw_seq ?_
    refine cw_region ?_
    refine ow_y (y_move rfl) ?_
    refine ow_y (y_err (by kernel_rfl) rfl) ?_
    refine ow_y (y_move rfl) ?_
    refine ow_skip rfl (fun a w hh => (want_of rfl rfl rfl hh).trans (wFT rfl)) ?_
    refine ow_skip rfl (fun a w hh => (want_of rfl rfl rfl hh).trans (wFT rfl)) ?_
    refine ow_skip rfl (fun a w hh => (want_of rfl rfl rfl hh).trans (wFT rfl)) ?_
    refine ow_skip rfl (fun a w hh => (want_of rfl rfl rfl hh).trans (wFT rfl)) ?_
    refine ow_y (y_pickT rfl rfl rfl) ?_
    refine ow_y (y_move rfl) ?_
    refine ow_skip rfl (fun a w hh => (want_of rfl rfl rfl hh).trans (wFT rfl)) ?_
    refine ow_skip rfl (fun a w hh => (want_of rfl rfl rfl hh).trans (wFT rfl)) ?_
    refine ow_y (y_pickT rfl rfl rfl) ?_
    refine ow_y (y_move rfl) ?_
    refine ow_skip rfl (fun a w hh => (want_of rfl rfl rfl hh).trans (wFT rfl)) ?_
    refine ow_skip rfl (fun a w hh => (want_of rfl rfl rfl hh).trans (wFT rfl)) ?_
    refine ow_y (y_pickT rfl rfl rfl) ?_
    refine ow_nil ?_
    refine kw_code (fun _ _ h => h) ?_
    refine cw_true rfl (by first | rfl | exact decide_eq_true (by omega)) ?_
    refine cw_seq ?_
    refine cw_region ?_
    refine ow_y (y_assign rfl) ?_
    refine ow_y (y_assign rfl) ?_
    refine ow_nil ?_
    refine kw_code (fun _ _ h => h) ?_
    refine cw_retG (fun _ _ h => h) rfl (by simp only [numV, hN]) (by repeat (first | exact Split.nil | apply Split.cons (by repeat (first | exact Fnd.here | apply Fnd.there))))
end Go.Proofs.YtoolmpfkbaffcaaDoor
