/- Part of the proof; no statement of its own: S10. -/
import Derived.Test.YtoolmpfkbaffcaaDoorFacts
import Derived.Test.YtoolmpfkbaffcaaDoorS9
set_option linter.all false
set_option maxRecDepth 4000
set_option maxHeartbeats 4000000
namespace Go.Proofs.YtoolmpfkbaffcaaDoor
open Go.Sl Go.Sc
def lnStrs (l : Ln) (i : Nat) : List ByteArray := l.verb :: (l.ns.take i).map fun z => sb (Lib.itoa z)
theorem lnStrs_len (l : Ln) (i : Nat) (h : i ≤ l.ns.length) : (lnStrs l i).length = i + 1 := by simp [lnStrs]; omega
theorem lnStrs_step (l : Ln) (i : Nat) (h : i < l.ns.length) : lnStrs l i ++ [sb (Lib.itoa l.ns[i])] = lnStrs l (i + 1) := by
  simp only [lnStrs, List.take_succ, List.getElem?_eq_getElem h, List.map_append, List.cons_append]; rfl
theorem lnStrs_end (l : Ln) : (lnStrs l l.ns.length).map (·.data.toList) = l.verb.data.toList :: l.ns.map Lib.itoa := by
  simp [lnStrs, Function.comp_def, sb]
theorem words_none (l : Ln) (h : l.word = ByteArray.empty) : (lnStrs l l.ns.length).map (·.data.toList) = lnWords l := by
  rw [lnStrs_end, lnWords, if_pos h, List.append_nil]
theorem words_some (l : Ln) (h : l.word ≠ ByteArray.empty) : (lnStrs l l.ns.length ++ [l.word]).map (·.data.toList) = lnWords l := by
  rw [List.map_append, lnStrs_end, lnWords, if_neg h]; rfl
theorem text_spec {W : World} (hW : ShW W) (l : Ln) (v : Value) (hv : v.oneCell' = true) (hn : l.ns.length ≤ 1000) (hz : ∀ z ∈ l.ns, -9223372036854775808 ≤ z ∧ z ≤ 9223372036854775807) (hj : (Lib.join (lnWords l) [32]).length ≤ 1000000) :
    Does Tryd.prog 11 #[.agg (lnC l.verb v l.word).toArray] [rowA 3 1 v l.ns.length (l.ns.map intL), whole W] (Gives (.string (lnText l)) [rowA 3 1 v l.ns.length (l.ns.map intL), whole W]) := by
  refine does_enter Tryd.func11 rfl Tryd.ntmps11 rfl (fun R w0 => ?_)
  simp only [envOf, List.cons_append, List.nil_append, lnC]
  refine cw_seq ?_
  refine cw_region ?_
  refine (ow_box rfl (fun b1 => ?_))
  refine ow_y (y_assign rfl) ?_
  refine ow_nil ?_
  refine kw_code (fun _ _ h => h) ?_
  refine cw_seq ?_
  refine cw_rowany (by repeat (first | exact Fnd.here | apply Fnd.there)) fun p cap hvv hcap _ => ?_
  refine cw_region ?_
  subst hvv
  refine ow_y (y_fld F.fld26_0 rfl) ?_
  refine ow_y (y_load F.sc9 rfl (by rfl)) ?_
  refine (ow_buildSlice F.sl41 F.z9 rfl rfl rfl (by simp [fillL, madeL, Value.cells] <;> rfl) (fun b8 => ?_))
  refine ow_y (y_assign rfl) ?_
  refine ow_nil ?_
  refine kw_code (fun _ _ h => h) ?_
  refine cw_seq ?_
  refine cw_seq ?_
  refine cw_said (fun w h => sat_rowNew (n := 1) rfl (by simp [maxLen]) h) ?_
  refine cw_region ?_
  refine ow_y (y_fld F.fld26_1 rfl) ?_
  refine ow_y (y_load F.sc24 rfl (by rfl)) ?_
  refine ow_y (y_len_slice F.sl24 rfl) ?_
  refine ow_y (y_move rfl) ?_
  refine ow_nil ?_
  refine kw_code (fun _ _ h => h) ?_
  refine cw_block ?_
  refine cw_loop (X := {x : Nat × Value // x.1 ≤ l.ns.length ∧ x.2.oneCell' = true}) (fun x => [(1, .pointer (some ⟨b1, 0, none⟩)), (3, x.1.2), (10, .slice p l.ns.length cap), (11, .int .i64 l.ns.length), (12, .int .i64 x.1.1)]) (fun x => [rowA 9 1 x.1.2 (lnStrs l x.1.1).length ((lnStrs l x.1.1).map Value.string), rowA 3 1 (.slice p l.ns.length cap) l.ns.length (l.ns.map intL), pts b1 (.cells [.string l.verb, .slice p l.ns.length cap, .string l.word].toArray 26 (0, 0)), whole W, R]) (fun x => l.ns.length - x.1.1) ⟨(0, .slice (some ⟨b8, 0, none⟩) 1 1), by dsimp only; omega, rfl⟩ (by repeat (first | exact Sub.nil | refine Sub.cons rfl ?_)) (by repeat (first | exact Split.nil | apply Split.cons (by repeat (first | exact Fnd.here | apply Fnd.there)))) ?_
  rintro ⟨⟨i, u⟩, hi, hu⟩ m0 hm0
  try simp only at hm0
  try dsimp only
  dsimp only at hi hu
  have hsl := lnStrs_len l i hi
  refine cw_seq ?_
  refine cw_region ?_
  refine ow_y (y_lss rfl rfl) ?_
  refine ow_nil ?_
  refine kw_code (fun _ _ h => h) ?_
  refine cw_seq ?_
  refine cw_if rfl (fun hb13 => ?_) (fun hb13 => ?_)
  · skip
    have hit : i < l.ns.length := by have := of_decide_eq_true hb13; omega
    refine cw_skip ?_
    refine kw_code (fun _ _ h => h) ?_
    refine cw_seq ?_
    refine cw_block ?_
    refine cw_seq ?_
    refine cw_rowv (e := 3) (by repeat (first | exact Fnd.here | apply Fnd.there)) (by omega) fun bn cap' hv' hcap' => ?_
    refine cw_region ?_
    obtain ⟨rfl, _, _⟩ : p = some ⟨bn, 0, none⟩ ∧ l.ns.length = l.ns.length ∧ cap = cap' := by simpa using hv'
    have hg : (l.ns.map intL)[i]? = some (intL l.ns[i]) := by rw [List.getElem?_map, List.getElem?_eq_getElem hit]; rfl
    refine ow_y (y_ixs F.sl24 rfl rfl (by omega)) ?_
    refine ow_y (y_loadRow F.sc3 rfl (by repeat (first | exact Fnd.here | apply Fnd.there)) (by rw [nth_eq]; simpa using hg)) ?_
    refine ow_y (y_assign rfl) ?_
    refine ow_nil ?_
    simp only [intL]
    refine kw_code (fun _ _ h => h) ?_
    refine cw_region ?_
    refine ow_y (y_move rfl) ?_
    refine ow_y (y_move rfl) ?_
    refine ow_gives rfl F.hb24 rfl (itoa_does hW l.ns[i] (hz _ (List.getElem_mem hit)).1 (hz _ (List.getElem_mem hit)).2) (by repeat (first | exact Split.nil | apply Split.cons (by repeat (first | exact Fnd.here | apply Fnd.there)))) ?_
    simp only [List.cons_append, List.nil_append]
    refine (ow_buildSlice F.sl41 F.z9 rfl rfl rfl (by simp [fillL, madeL, Value.cells] <;> rfl) (fun b19 => ?_))
    refine (ow_append F.sl41 F.tb9 F.z9 rfl rfl rfl (by repeat (first | exact Fnd.here | apply Fnd.there)) (src_blk F.sl41 (by simp; rfl) (by simp) (by simp [Value.oneCell'])) (by simp only [maxLen]; omega) (by omega) (fun v20 hv20 => ?_))
    refine ow_y (y_assign rfl) ?_
    refine ow_nil ?_
    rw [show (lnStrs l i).map Value.string ++ [Value.string (sb (Lib.itoa l.ns[i]))] = (lnStrs l (i + 1)).map Value.string from by rw [← lnStrs_step l i hit]; simp, show (lnStrs l i).length + 1 = (lnStrs l (i + 1)).length from by rw [lnStrs_len _ _ hi, lnStrs_len _ _ hit]]
    refine kw_code (fun _ _ h => h) ?_
    refine cw_region ?_
    refine ow_y (y_addI rfl rfl (by omega)) ?_
    refine ow_y (y_move rfl) ?_
    refine ow_nil ?_
    refine kw_rnd (fun _ _ h => h) (⟨(i + 1, v20), hit, hv20⟩) (by first | omega | (simp only; omega)) (by repeat (first | exact Sub.nil | refine Sub.cons rfl ?_)) (by repeat (first | exact Split.nil | apply Split.cons (by repeat (first | exact Fnd.here | apply Fnd.there))))
  · skip
    obtain rfl : i = l.ns.length := by have := of_decide_eq_false hb13; omega
    have hsl2 := lnStrs_len l l.ns.length (Nat.le_refl _)
    refine cw_exit ?_
    refine kw_code (fun _ _ h => h) ?_
    refine cw_seq ?_
    refine cw_seq ?_
    refine cw_region ?_
    refine ow_y (y_fld F.fld26_2 rfl) ?_
    refine ow_y (y_load F.sc9 rfl (by rfl)) ?_
    refine ow_y (y_str_neqD rfl rfl) ?_
    refine ow_nil ?_
    refine kw_code (fun _ _ h => h) ?_
    refine cw_if rfl (fun hb24 => ?_) (fun hb24 => ?_)
    · skip
      have hw : l.word ≠ ByteArray.empty := fun e => by have := hb24; rw [e] at this; exact absurd this (by decide)
      have hwd := words_some l hw
      refine cw_region ?_
      refine ow_y (y_move rfl) ?_
      refine ow_y (y_fld F.fld26_2 rfl) ?_
      refine ow_y (y_load F.sc9 rfl (by rfl)) ?_
      refine (ow_buildSlice F.sl41 F.z9 rfl rfl rfl (by simp [fillL, madeL, Value.cells] <;> rfl) (fun b28 => ?_))
      refine (ow_append F.sl41 F.tb9 F.z9 rfl rfl rfl (by repeat (first | exact Fnd.here | apply Fnd.there)) (src_blk F.sl41 (by simp; rfl) (by simp) (by simp [Value.oneCell'])) (by simp only [maxLen]; omega) (by omega) (fun v29 hv29 => ?_))
      refine ow_y (y_assign rfl) ?_
      refine ow_nil ?_
      refine kw_code (fun _ _ h => h) ?_
      refine cw_seq ?_
      refine cw_region ?_
      refine ow_y (y_move rfl) ?_
      rw [show (lnStrs l l.ns.length).map Value.string ++ [Value.string l.word] = (lnStrs l l.ns.length ++ [l.word]).map Value.string from by simp]
      refine ow_gives rfl F.hb18 rfl ((join_does (n := (lnStrs l l.ns.length).length + 1) (xs := lnStrs l l.ns.length ++ [l.word]) (sep := ⟨#[32]⟩) (by simp) (by simp) (by have := lnStrs_len l _ (Nat.le_refl l.ns.length); simp; omega) (by rw [hwd]; exact hj))) (by repeat (first | exact Split.nil | apply Split.cons (by repeat (first | exact Fnd.here | apply Fnd.there)))) ?_
      simp only [List.cons_append, List.nil_append]
      refine ow_y (y_assign rfl) ?_
      refine ow_nil ?_
      refine kw_code (fun _ _ h => h) ?_
      refine cw_retG (fun _ _ h => h) rfl (by rw [hwd]; rfl) (by repeat (first | exact Split.nil | apply Split.cons (by repeat (first | exact Fnd.here | apply Fnd.there))))
    · skip
      have hw : l.word = ByteArray.empty := by show l.word = (⟨#[]⟩ : ByteArray); simpa using hb24
      have hwd := words_none l hw
      refine cw_skip ?_
      refine kw_code (fun _ _ h => h) ?_
      refine cw_seq ?_
      refine cw_region ?_
      refine ow_y (y_move rfl) ?_
      refine ow_gives rfl F.hb18 rfl ((join_does (xs := lnStrs l l.ns.length) (sep := ⟨#[32]⟩) rfl (by simp [lnStrs]) (by have := lnStrs_len l _ (Nat.le_refl l.ns.length); omega) (by rw [hwd]; exact hj))) (by repeat (first | exact Split.nil | apply Split.cons (by repeat (first | exact Fnd.here | apply Fnd.there)))) ?_
      simp only [List.cons_append, List.nil_append]
      refine ow_y (y_assign rfl) ?_
      refine ow_nil ?_
      refine kw_code (fun _ _ h => h) ?_
      refine cw_retG (fun _ _ h => h) rfl (by rw [hwd]; rfl) (by repeat (first | exact Split.nil | apply Split.cons (by repeat (first | exact Fnd.here | apply Fnd.there))))
end Go.Proofs.YtoolmpfkbaffcaaDoor
