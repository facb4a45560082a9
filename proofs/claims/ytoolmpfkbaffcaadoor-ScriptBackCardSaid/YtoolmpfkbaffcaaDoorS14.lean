/- Part of the proof; no statement of its own: S14. -/
import Derived.Test.YtoolmpfkbaffcaaDoorFacts
import Derived.Test.YtoolmpfkbaffcaaDoorS13
set_option linter.all false
set_option maxRecDepth 4000
set_option maxHeartbeats 4000000
namespace Go.Proofs.YtoolmpfkbaffcaaDoor
open Go.Sl Go.Sc
theorem same_spec (a b : ByteArray) (ns : List Int) (v u : Value) (hv : v.oneCell' = true) (hu : u.oneCell' = true) (hn : ns.length ≤ 1000) : Does Tryd.prog 10 #[.agg (lnC a v b).toArray, .agg (lnC a u b).toArray]
    [rowA 3 1 v ns.length (ns.map intL), rowA 3 1 u ns.length (ns.map intL)] (Gives (.int .i64 0) [rowA 3 1 v ns.length (ns.map intL), rowA 3 1 u ns.length (ns.map intL)]) := by
  refine does_rowany (fun p cap hvv => ?_)
  subst hvv
  refine does_rowany2 (fun q cap2 huu => ?_)
  subst huu
  refine does_enter Tryd.func10 rfl Tryd.ntmps10 rfl (fun R w0 => ?_)
  simp only [envOf, List.cons_append, List.nil_append, lnC]
  refine cw_seq ?_
  refine cw_region ?_
  refine (ow_box rfl (fun b2 => ?_))
  refine (ow_box rfl (fun b3 => ?_))
  refine ow_y (y_assign rfl) ?_
  refine ow_nil ?_
  refine kw_code (fun _ _ h => h) ?_
  refine cw_seq ?_
  refine cw_seq ?_
  refine cw_region ?_
  refine ow_y (y_fld F.fld26_0 rfl) ?_
  refine ow_y (y_load F.sc9 rfl (by rfl)) ?_
  refine ow_y (y_fld F.fld30_0 rfl) ?_
  refine ow_y (y_load F.sc9 rfl (by rfl)) ?_
  refine ow_y (y_str_neqD rfl rfl) ?_
  refine ow_y (y_move rfl) ?_
  refine ow_yg (y_fld F.fld26_2 rfl) (fun a w hh => (want_of rfl rfl rfl hh).trans (wFF (by simp))) ?_
  refine ow_yg (y_load F.sc9 rfl (by rfl)) (fun a w hh => (want_of rfl rfl rfl hh).trans (wFF (by simp))) ?_
  refine ow_yg (y_fld F.fld30_2 rfl) (fun a w hh => (want_of rfl rfl rfl hh).trans (wFF (by simp))) ?_
  refine ow_yg (y_load F.sc9 rfl (by rfl)) (fun a w hh => (want_of rfl rfl rfl hh).trans (wFF (by simp))) ?_
  refine ow_yg (y_str_neqD rfl rfl) (fun a w hh => (want_of rfl rfl rfl hh).trans (wFF (by simp))) ?_
  refine ow_y (y_pickF rfl (by simp) rfl) ?_
  refine ow_y (y_move rfl) ?_
  refine ow_yg (y_fld F.fld26_1 rfl) (fun a w hh => (want_of rfl rfl rfl hh).trans (wFF (by simp))) ?_
  refine ow_yg (y_load F.sc24 rfl (by rfl)) (fun a w hh => (want_of rfl rfl rfl hh).trans (wFF (by simp))) ?_
  refine ow_yg (y_len_slice F.sl24 rfl) (fun a w hh => (want_of rfl rfl rfl hh).trans (wFF (by simp))) ?_
  refine ow_yg (y_fld F.fld30_1 rfl) (fun a w hh => (want_of rfl rfl rfl hh).trans (wFF (by simp))) ?_
  refine ow_yg (y_load F.sc24 rfl (by rfl)) (fun a w hh => (want_of rfl rfl rfl hh).trans (wFF (by simp))) ?_
  refine ow_yg (y_len_slice F.sl24 rfl) (fun a w hh => (want_of rfl rfl rfl hh).trans (wFF (by simp))) ?_
  refine ow_yg (y_neq rfl rfl) (fun a w hh => (want_of rfl rfl rfl hh).trans (wFF (by simp))) ?_
  refine ow_y (y_pickF rfl (by simp) rfl) ?_
  refine ow_nil ?_
  refine kw_code (fun _ _ h => h) ?_
  refine cw_false rfl (by simp) ?_
  refine cw_skip ?_
  refine kw_code (fun _ _ h => h) ?_
  refine cw_seq ?_
  refine cw_seq ?_
  refine cw_region ?_
  refine ow_y (y_fld F.fld30_1 rfl) ?_
  refine ow_y (y_load F.sc24 rfl (by rfl)) ?_
  refine ow_y (y_len_slice F.sl24 rfl) ?_
  refine ow_y (y_move rfl) ?_
  refine ow_nil ?_
  refine kw_code (fun _ _ h => h) ?_
  refine cw_block ?_
  refine cw_loop (X := {i : Nat // i ≤ ns.length}) (fun x => [(2, .pointer (some ⟨b2, 0, none⟩)), (3, .pointer (some ⟨b3, 0, none⟩)), (29, .int .i64 ns.length), (30, .int .i64 x.1)]) (fun x => [pts b2 (.cells [.string a, .slice p ns.length cap, .string b].toArray 26 (0, 0)), pts b3 (.cells [.string a, .slice q ns.length cap2, .string b].toArray 30 (0, 0)), rowA 3 1 (.slice p ns.length cap) ns.length (ns.map intL), rowA 3 1 (.slice q ns.length cap2) ns.length (ns.map intL), R]) (fun x => ns.length - x.1) ⟨0, by omega⟩ (by repeat (first | exact Sub.nil | refine Sub.cons rfl ?_)) (by repeat (first | exact Split.nil | apply Split.cons (by repeat (first | exact Fnd.here | apply Fnd.there)))) ?_
  rintro ⟨i, hi⟩ m0 hm0
  try simp only at hm0
  try dsimp only
  skip
  refine cw_seq ?_
  refine cw_region ?_
  refine ow_y (y_lss rfl rfl) ?_
  refine ow_nil ?_
  refine kw_code (fun _ _ h => h) ?_
  refine cw_seq ?_
  refine cw_if rfl (fun hb31 => ?_) (fun hb31 => ?_)
  · skip
    have hit : i < ns.length := by have := of_decide_eq_true hb31; omega
    have hg : nth (ns.map intL) i = some (intL ns[i]) := by rw [nth_eq, List.getElem?_map, List.getElem?_eq_getElem hit]; rfl
    refine cw_skip ?_
    refine kw_code (fun _ _ h => h) ?_
    refine cw_seq ?_
    refine cw_block ?_
    refine cw_seq ?_
    refine cw_region ?_
    refine ow_y (y_move rfl) ?_
    refine ow_y (y_assign rfl) ?_
    refine ow_nil ?_
    refine kw_code (fun _ _ h => h) ?_
    refine cw_seq ?_
    refine cw_rowv (v := .slice p ns.length cap) (by repeat (first | exact Fnd.here | apply Fnd.there)) (by omega) fun bp cp hvp hcp => ?_
    refine cw_rowv (v := .slice q ns.length cap2) (by repeat (first | exact Fnd.here | apply Fnd.there)) (by omega) fun bq cq hvq hcq => ?_
    refine cw_soft F.fol (by kernel_rfl) ?_
    obtain ⟨rfl, _⟩ : p = some ⟨bp, 0, none⟩ ∧ cap = cp := by simpa using hvp
    obtain ⟨rfl, _⟩ : q = some ⟨bq, 0, none⟩ ∧ cap2 = cq := by simpa using hvq
    refine os_y (y_fld F.fld26_1 rfl) ?_
    refine os_y (y_load F.sc24 rfl (by rfl)) ?_
    refine os_y (y_move rfl) ?_
    refine os_y (y_ixs F.sl24 rfl rfl (by omega)) ?_
    refine os_y (y_loadRow F.sc3 rfl (by repeat (first | exact Fnd.here | apply Fnd.there)) (by simpa using hg)) ?_
    refine os_y (y_fld F.fld30_1 rfl) ?_
    refine os_y (y_load F.sc24 rfl (by rfl)) ?_
    refine os_y (y_move rfl) ?_
    refine os_y (y_ixs F.sl24 rfl rfl (by omega)) ?_
    refine os_y (y_loadRow F.sc3 rfl (by repeat (first | exact Fnd.here | apply Fnd.there)) (by simpa using hg)) ?_
    refine os_y (y_neq rfl rfl) ?_
    refine os_nil ?_
    refine kw_code (fun _ _ h => h) ?_
    refine cw_false rfl (by simp [intL]) ?_
    refine cw_skip ?_
    refine kw_code (fun _ _ h => h) ?_
    refine cw_region ?_
    refine ow_y (y_addI rfl rfl (by omega)) ?_
    refine ow_y (y_move rfl) ?_
    refine ow_nil ?_
    refine kw_rnd (fun _ _ h => h) (⟨i + 1, hit⟩) (by first | omega | (simp only; omega)) (by repeat (first | exact Sub.nil | refine Sub.cons rfl ?_)) (by repeat (first | exact Split.nil | apply Split.cons (by repeat (first | exact Fnd.here | apply Fnd.there))))
  · skip
    obtain rfl : i = ns.length := by have := of_decide_eq_false hb31; omega
    refine cw_exit ?_
    refine kw_code (fun _ _ h => h) ?_
    refine cw_seq ?_
    refine cw_region ?_
    refine ow_y (y_assign rfl) ?_
    refine ow_nil ?_
    refine kw_code (fun _ _ h => h) ?_
    refine cw_retG (fun _ _ h => h) rfl rfl (by repeat (first | exact Split.nil | apply Split.cons (by repeat (first | exact Fnd.here | apply Fnd.there))))
theorem scriptReads_walk (W : World) (hW : ShW W) (s_ : ByteArray) (hs_ : s_.size ≤ maxLen) : Does Tryd.prog 3 #[.string s_] [whole W] (Gives (.bool true) [whole W]) := by
  have hc := cut_spec s_ 220 hs_
  have hl := cutS_le s_ 220
  generalize cutS s_ 220 = s at hc hl
  have h1 := parse_spec hW s (by omega)
  have h2 := rparse_spec (W := W) s (by omega)
  cases hp : lnParse s with
  | error e =>
    have he := parse_err s e hp
    refine does_enter Tryd.func3 rfl Tryd.ntmps3 rfl (fun R w0 => ?_)
    simp only [envOf, List.cons_append, List.nil_append]
    refine cw_seq ?_
    refine cw_region ?_
    refine ow_y (y_assign rfl) ?_
    refine ow_nil ?_
    refine kw_code (fun _ _ h => h) ?_
    refine cw_seq ?_
    refine cw_region ?_
    refine ow_y (y_move rfl) ?_
    refine ow_gives rfl F.hb6 rfl (hc) (by repeat (first | exact Split.nil | apply Split.cons (by repeat (first | exact Fnd.here | apply Fnd.there)))) ?_
    simp only [List.cons_append, List.nil_append]
    refine ow_y (y_assign rfl) ?_
    refine ow_nil ?_
    refine kw_code (fun _ _ h => h) ?_
    refine cw_seq ?_
    refine cw_seq ?_
    refine cw_region ?_
    refine ow_gives rfl F.hb7 rfl (scAwake_spec hW) (by repeat (first | exact Split.nil | apply Split.cons (by repeat (first | exact Fnd.here | apply Fnd.there)))) ?_
    simp only [List.cons_append, List.nil_append]
    refine ow_y (y_not rfl) ?_
    refine ow_nil ?_
    refine kw_code (fun _ _ h => h) ?_
    refine cw_false rfl rfl ?_
    refine cw_skip ?_
    refine kw_code (fun _ _ h => h) ?_
    refine cw_seq ?_
    refine cw_region ?_
    refine ow_y (y_move rfl) ?_
    refine ow_givesE rfl F.hb8 rfl (h1) (by repeat (first | exact Split.nil | apply Split.cons (by repeat (first | exact Fnd.here | apply Fnd.there)))) ?_
    rintro ⟨r, v⟩ ⟨hr, hv⟩
    simp only [List.cons_append, List.nil_append]
    obtain rfl : r = _ := hr.trans hp
    dsimp only [parV, parM, lnC]
    simp only [List.cons_append, List.nil_append, List.append_eq]
    refine ow_y (y_move rfl) ?_
    refine ow_y (y_ext rfl rfl) ?_
    refine ow_y (y_ext rfl rfl) ?_
    refine (ow_alloc F.z26 (fun b3 => ?_))
    refine (ow_storeAgg F.sz26 rfl rfl (by first | rfl | simp) (by simp [Value.oneCell']) (by simp [Value.cells]) (by simp [splice, Value.cells] <;> rfl) ?_)
    refine ow_y (y_assign rfl) ?_
    refine ow_nil ?_
    refine kw_code (fun _ _ h => h) ?_
    refine cw_seq ?_
    refine cw_region ?_
    refine ow_y (y_move rfl) ?_
    refine ow_givesE rfl F.hb9 rfl (h2) (by repeat (first | exact Split.nil | apply Split.cons (by repeat (first | exact Fnd.here | apply Fnd.there)))) ?_
    rintro ⟨r2, u⟩ ⟨hr2, hu⟩
    simp only [List.cons_append, List.nil_append]
    obtain rfl : r2 = _ := hr2.trans hp
    dsimp only [parV, parM, lnC]
    simp only [List.cons_append, List.nil_append, List.append_eq]
    refine ow_y (y_move rfl) ?_
    refine ow_y (y_ext rfl rfl) ?_
    refine ow_y (y_ext rfl rfl) ?_
    refine (ow_alloc F.z30 (fun b5 => ?_))
    refine (ow_storeAgg F.sz30 rfl rfl (by first | rfl | simp) (by simp [Value.oneCell']) (by simp [Value.cells]) (by simp [splice, Value.cells] <;> rfl) ?_)
    refine ow_y (y_assign rfl) ?_
    refine ow_nil ?_
    refine kw_code (fun _ _ h => h) ?_
    refine cw_seq ?_
    refine cw_said (fun w h => sat_row_nil 3 1 w h) ?_
    refine cw_said (fun w h => sat_row_nil 3 1 w h) ?_
    refine cw_region ?_
    refine ow_y (y_move rfl) ?_
    refine ow_y (y_move rfl) ?_
    refine ow_y (y_eql rfl rfl) ?_
    refine ow_y (y_move rfl) ?_
    refine ow_yg (y_loadAgg F.ag26 rfl (by simp) (by rfl)) (fun a w hh => (want_of rfl rfl rfl hh).trans (wTT (beq_self_eq_true _))) ?_
    refine ow_yg (y_loadAgg F.ag30 rfl (by simp) (by rfl)) (fun a w hh => (want_of rfl rfl rfl hh).trans (wTT (beq_self_eq_true _))) ?_
    refine ow_want (fun a w hh => (want_of rfl rfl rfl hh).trans (wTT (beq_self_eq_true _))) ?_
    refine ow_gives rfl F.hb10 rfl (same_spec ⟨#[]⟩ ⟨#[]⟩ [] (.slice none 0 0) (.slice none 0 0) rfl rfl (by simp)) (by repeat (first | exact Split.nil | apply Split.cons (by repeat (first | exact Fnd.here | apply Fnd.there)))) ?_
    simp only [List.cons_append, List.nil_append]
    refine ow_yg (y_eql rfl rfl) (fun a w hh => (want_of rfl rfl rfl hh).trans (wTT (beq_self_eq_true _))) ?_
    refine ow_y (y_pickT rfl (beq_self_eq_true _) rfl) ?_
    refine ow_y (y_move rfl) ?_
    refine ow_yg (y_move rfl) (fun a w hh => (want_of rfl rfl rfl hh).trans (wTT rfl)) ?_
    refine ow_yg (y_neq rfl rfl) (fun a w hh => (want_of rfl rfl rfl hh).trans (wTT rfl)) ?_
    refine ow_yg (y_move rfl) (fun a w hh => (want_of rfl rfl rfl hh).trans (wTT rfl)) ?_
    refine ow_skip rfl (fun a w hh => (want_of rfl rfl rfl hh).trans (wFT (by simpa using he))) ?_
    refine ow_skip rfl (fun a w hh => (want_of rfl rfl rfl hh).trans (wFT (by simpa using he))) ?_
    refine ow_skip rfl (fun a w hh => (want_of rfl rfl rfl hh).trans (wFT (by simpa using he))) ?_
    refine ow_skip rfl (fun a w hh => (want_of rfl rfl rfl hh).trans (wFT (by simpa using he))) ?_
    refine ow_yg (y_pickT rfl (by simpa using he) rfl) (fun a w hh => (want_of rfl rfl rfl hh).trans (wTT rfl)) ?_
    refine ow_y (y_pickT rfl rfl rfl) ?_
    refine ow_y (y_assign rfl) ?_
    refine ow_nil ?_
    refine kw_code (fun _ _ h => h) ?_
    refine cw_retG (fun _ _ h => h) rfl rfl (by repeat (first | exact Split.nil | apply Split.cons (by repeat (first | exact Fnd.here | apply Fnd.there))))
  | ok l =>
    obtain ⟨hw1, hw2, hw3, hw4⟩ := parse_words s l hp
    obtain ⟨ht1, ht2⟩ := parse_text s l hp
    refine does_enter Tryd.func3 rfl Tryd.ntmps3 rfl (fun R w0 => ?_)
    simp only [envOf, List.cons_append, List.nil_append]
    refine cw_seq ?_
    refine cw_region ?_
    refine ow_y (y_assign rfl) ?_
    refine ow_nil ?_
    refine kw_code (fun _ _ h => h) ?_
    refine cw_seq ?_
    refine cw_region ?_
    refine ow_y (y_move rfl) ?_
    refine ow_gives rfl F.hb6 rfl (hc) (by repeat (first | exact Split.nil | apply Split.cons (by repeat (first | exact Fnd.here | apply Fnd.there)))) ?_
    simp only [List.cons_append, List.nil_append]
    refine ow_y (y_assign rfl) ?_
    refine ow_nil ?_
    refine kw_code (fun _ _ h => h) ?_
    refine cw_seq ?_
    refine cw_seq ?_
    refine cw_region ?_
    refine ow_gives rfl F.hb7 rfl (scAwake_spec hW) (by repeat (first | exact Split.nil | apply Split.cons (by repeat (first | exact Fnd.here | apply Fnd.there)))) ?_
    simp only [List.cons_append, List.nil_append]
    refine ow_y (y_not rfl) ?_
    refine ow_nil ?_
    refine kw_code (fun _ _ h => h) ?_
    refine cw_false rfl rfl ?_
    refine cw_skip ?_
    refine kw_code (fun _ _ h => h) ?_
    refine cw_seq ?_
    refine cw_region ?_
    refine ow_y (y_move rfl) ?_
    refine ow_givesE rfl F.hb8 rfl (h1) (by repeat (first | exact Split.nil | apply Split.cons (by repeat (first | exact Fnd.here | apply Fnd.there)))) ?_
    rintro ⟨r, v⟩ ⟨hr, hv⟩
    simp only [List.cons_append, List.nil_append]
    obtain rfl : r = _ := hr.trans hp
    dsimp only [parV, parM, lnC]
    simp only [List.cons_append, List.nil_append, List.append_eq]
    refine ow_y (y_move rfl) ?_
    refine ow_y (y_ext rfl rfl) ?_
    refine ow_y (y_ext rfl rfl) ?_
    refine (ow_alloc F.z26 (fun b3 => ?_))
    refine (ow_storeAgg F.sz26 rfl rfl (by first | rfl | simp) (by simpa [Value.oneCell'] using hv) (by simp [Value.cells]) (by simp [splice, Value.cells] <;> rfl) ?_)
    refine ow_y (y_assign rfl) ?_
    refine ow_nil ?_
    refine kw_code (fun _ _ h => h) ?_
    refine cw_seq ?_
    refine cw_region ?_
    refine ow_y (y_move rfl) ?_
    refine ow_givesE rfl F.hb9 rfl (h2) (by repeat (first | exact Split.nil | apply Split.cons (by repeat (first | exact Fnd.here | apply Fnd.there)))) ?_
    rintro ⟨r2, u⟩ ⟨hr2, hu⟩
    simp only [List.cons_append, List.nil_append]
    obtain rfl : r2 = _ := hr2.trans hp
    dsimp only [parV, parM, lnC]
    simp only [List.cons_append, List.nil_append, List.append_eq]
    refine ow_y (y_move rfl) ?_
    refine ow_y (y_ext rfl rfl) ?_
    refine ow_y (y_ext rfl rfl) ?_
    refine (ow_alloc F.z30 (fun b5 => ?_))
    refine (ow_storeAgg F.sz30 rfl rfl (by first | rfl | simp) (by simpa [Value.oneCell'] using hu) (by simp [Value.cells]) (by simp [splice, Value.cells] <;> rfl) ?_)
    refine ow_y (y_assign rfl) ?_
    refine ow_nil ?_
    refine kw_code (fun _ _ h => h) ?_
    refine cw_seq ?_
    refine cw_region ?_
    refine ow_y (y_move rfl) ?_
    refine ow_y (y_move rfl) ?_
    refine ow_y (y_eql rfl rfl) ?_
    refine ow_y (y_move rfl) ?_
    refine ow_yg (y_loadAgg F.ag26 rfl (by simp) (by rfl)) (fun a w hh => (want_of rfl rfl rfl hh).trans (wTT rfl)) ?_
    refine ow_yg (y_loadAgg F.ag30 rfl (by simp) (by rfl)) (fun a w hh => (want_of rfl rfl rfl hh).trans (wTT rfl)) ?_
    refine ow_want (fun a w hh => (want_of rfl rfl rfl hh).trans (wTT rfl)) ?_
    refine ow_gives rfl F.hb10 rfl (same_spec l.verb l.word l.ns v u hv hu (by omega)) (by repeat (first | exact Split.nil | apply Split.cons (by repeat (first | exact Fnd.here | apply Fnd.there)))) ?_
    simp only [List.cons_append, List.nil_append]
    refine ow_yg (y_eql rfl rfl) (fun a w hh => (want_of rfl rfl rfl hh).trans (wTT rfl)) ?_
    refine ow_y (y_pickT rfl rfl rfl) ?_
    refine ow_y (y_move rfl) ?_
    refine ow_yg (y_move rfl) (fun a w hh => (want_of rfl rfl rfl hh).trans (wTT rfl)) ?_
    refine ow_yg (y_neq rfl rfl) (fun a w hh => (want_of rfl rfl rfl hh).trans (wTT rfl)) ?_
    refine ow_yg (y_move rfl) (fun a w hh => (want_of rfl rfl rfl hh).trans (wTT rfl)) ?_
    refine ow_yg (y_loadAgg F.ag26 rfl (by simp) (by rfl)) (fun a w hh => (want_of rfl rfl rfl hh).trans (wFF rfl)) ?_
    refine ow_want (fun a w hh => (want_of rfl rfl rfl hh).trans (wFF rfl)) ?_
    refine ow_gives rfl F.hb11 rfl ((ht1 ▸ text_spec hW l v hv (by omega) (fun z hz => by have := hw2 z hz; omega) (by omega))) (by repeat (first | exact Split.nil | apply Split.cons (by repeat (first | exact Fnd.here | apply Fnd.there)))) ?_
    simp only [List.cons_append, List.nil_append]
    refine ow_yg (y_move rfl) (fun a w hh => (want_of rfl rfl rfl hh).trans (wFF rfl)) ?_
    refine ow_yg (y_str_eqlD rfl rfl) (fun a w hh => (want_of rfl rfl rfl hh).trans (wFF rfl)) ?_
    refine ow_yg (y_pickF rfl rfl rfl) (fun a w hh => (want_of rfl rfl rfl hh).trans (wTT rfl)) ?_
    refine ow_y (y_pickT rfl rfl rfl) ?_
    refine ow_y (y_assign rfl) ?_
    refine ow_nil ?_
    refine kw_code (fun _ _ h => h) ?_
    refine cw_retG (fun _ _ h => h) rfl (by simp) (by repeat (first | exact Split.nil | apply Split.cons (by repeat (first | exact Fnd.here | apply Fnd.there))))
end Go.Proofs.YtoolmpfkbaffcaaDoor
