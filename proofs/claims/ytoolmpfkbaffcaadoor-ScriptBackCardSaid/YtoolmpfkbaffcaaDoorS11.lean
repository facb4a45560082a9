/- Part of the proof; no statement of its own: S11. -/
import Derived.Test.YtoolmpfkbaffcaaDoorFacts
import Derived.Test.YtoolmpfkbaffcaaDoorS10
import Derived.Test.YtoolmpfkbaffcaaDoorSc5
set_option linter.all false
set_option maxRecDepth 4000
set_option maxHeartbeats 4000000
namespace Go.Proofs.YtoolmpfkbaffcaaDoor
open Go.Sl Go.Sc
theorem scAwake_spec {W : World} (hW : ShW W) : Does Tryd.prog 7 #[] [whole W] (Gives (.bool true) [whole W]) := by
  have ht := parse_text _ _ test_parse
  have htx : ∀ v : Value, v.oneCell' = true → Does Tryd.prog 11 #[.agg #[.string ⟨#[119, 114, 105, 116, 101]⟩, v, .string ⟨#[97, 98, 99]⟩]] [rowA 3 1 v 3 [intL 1, intL 0, intL 2], whole W] (Gives (.string lnTest) [rowA 3 1 v 3 [intL 1, intL 0, intL 2], whole W]) := by
    intro v hv
    have := text_spec hW ⟨⟨#[119, 114, 105, 116, 101]⟩, [1, 0, 2], ⟨#[97, 98, 99]⟩⟩ v hv (by decide) (by decide) (by rw [ht.2]; decide)
    rw [ht.1] at this
    exact this
  refine does_enter Tryd.func7 rfl Tryd.ntmps7 rfl (fun R w0 => ?_)
  simp only [envOf, List.cons_append, List.nil_append]
  refine cw_seq ?_
  refine cw_region ?_
  refine ow_y (y_assign rfl) ?_
  refine ow_nil ?_
  refine kw_code (fun _ _ h => h) ?_
  refine cw_seq ?_
  refine cw_region ?_
  refine ow_givesE rfl F.hb8 rfl ((parse_spec hW lnTest (by decide))) (by repeat (first | exact Split.nil | apply Split.cons (by repeat (first | exact Fnd.here | apply Fnd.there)))) ?_
  rintro ⟨r, v⟩ ⟨hr, hv⟩
  simp only [List.cons_append, List.nil_append]
  dsimp only at hr hv
  obtain rfl : r = _ := hr.trans test_parse
  simp only [parV, parM, lnC, List.map_cons, List.map_nil, List.length_cons, List.length_nil]
  refine ow_y (y_move rfl) ?_
  refine ow_y (y_ext rfl rfl) ?_
  refine ow_y (y_ext rfl rfl) ?_
  refine (ow_alloc F.z26 (fun b1 => ?_))
  refine (ow_storeAgg F.sz26 rfl rfl (by first | rfl | simp) (by simpa [Value.oneCell'] using hv) (by simp [Value.cells]) (by simp [splice, Value.cells] <;> rfl) ?_)
  refine ow_y (y_assign rfl) ?_
  refine ow_nil ?_
  refine kw_code (fun _ _ h => h) ?_
  refine cw_seq ?_
  refine cw_rowv (e := 3) (by repeat (first | exact Fnd.here | apply Fnd.there)) (by omega) fun bn cap hv' hcap' => ?_
  refine cw_region ?_
  subst hv'
  refine ow_y (y_move rfl) ?_
  refine ow_y (y_eql rfl rfl) ?_
  refine ow_y (y_move rfl) ?_
  refine ow_yg (y_fld F.fld26_1 rfl) (fun a w hh => (want_of rfl rfl rfl hh).trans (wTT rfl)) ?_
  refine ow_yg (y_load F.sc24 rfl (by rfl)) (fun a w hh => (want_of rfl rfl rfl hh).trans (wTT rfl)) ?_
  refine ow_yg (y_len_slice F.sl24 rfl) (fun a w hh => (want_of rfl rfl rfl hh).trans (wTT rfl)) ?_
  refine ow_yg (y_eql rfl rfl) (fun a w hh => (want_of rfl rfl rfl hh).trans (wTT rfl)) ?_
  refine ow_y (y_pickT rfl rfl rfl) ?_
  refine ow_y (y_move rfl) ?_
  refine ow_yg (y_fld F.fld26_1 rfl) (fun a w hh => (want_of rfl rfl rfl hh).trans (wTT rfl)) ?_
  refine ow_yg (y_load F.sc24 rfl (by rfl)) (fun a w hh => (want_of rfl rfl rfl hh).trans (wTT rfl)) ?_
  refine ow_yg (y_ixs F.sl24 rfl rfl (by omega)) (fun a w hh => (want_of rfl rfl rfl hh).trans (wTT rfl)) ?_
  refine ow_yg (y_loadRow F.sc3 rfl (by repeat (first | exact Fnd.here | apply Fnd.there)) (by rw [nth_eq]; rfl)) (fun a w hh => (want_of rfl rfl rfl hh).trans (wTT rfl)) ?_
  refine ow_yg (y_eql rfl rfl) (fun a w hh => (want_of rfl rfl rfl hh).trans (wTT rfl)) ?_
  refine ow_y (y_pickT rfl rfl rfl) ?_
  refine ow_y (y_move rfl) ?_
  refine ow_yg (y_fld F.fld26_2 rfl) (fun a w hh => (want_of rfl rfl rfl hh).trans (wTT rfl)) ?_
  refine ow_yg (y_load F.sc9 rfl (by rfl)) (fun a w hh => (want_of rfl rfl rfl hh).trans (wTT rfl)) ?_
  refine ow_yg (y_str_eqlD rfl rfl) (fun a w hh => (want_of rfl rfl rfl hh).trans (wTT rfl)) ?_
  refine ow_y (y_pickT rfl rfl rfl) ?_
  refine ow_y (y_move rfl) ?_
  refine ow_yg (y_loadAgg F.ag26 rfl (by simp) (by rfl)) (fun a w hh => (want_of rfl rfl rfl hh).trans (wTT rfl)) ?_
  refine ow_want (fun a w hh => (want_of rfl rfl rfl hh).trans (wTT rfl)) ?_
  refine ow_gives rfl F.hb11 rfl (htx _ hv) (by repeat (first | exact Split.nil | apply Split.cons (by repeat (first | exact Fnd.here | apply Fnd.there)))) ?_
  simp only [List.cons_append, List.nil_append]
  refine ow_yg (y_str_eqlD rfl rfl) (fun a w hh => (want_of rfl rfl rfl hh).trans (wTT rfl)) ?_
  refine ow_y (y_pickT rfl rfl rfl) ?_
  refine ow_y (y_assign rfl) ?_
  refine ow_nil ?_
  refine kw_code (fun _ _ h => h) ?_
  refine cw_retG (fun _ _ h => h) rfl rfl (by repeat (first | exact Split.nil | apply Split.cons (by repeat (first | exact Fnd.here | apply Fnd.there))))
end Go.Proofs.YtoolmpfkbaffcaaDoor
