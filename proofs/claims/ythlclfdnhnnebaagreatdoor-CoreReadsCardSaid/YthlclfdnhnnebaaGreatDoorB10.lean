/- Part of the proof; no statement of its own: G2, G3, CrcMath, Sha, Model2, Model3. -/
import Derived.Test.YthlclfdnhnnebaaGreatDoorB08
import Derived.Test.YthlclfdnhnnebaaGreatDoorB06
import Derived.Test.YthlclfdnhnnebaaGreatDoorB09
import Derived.Test.YthlclfdnhnnebaaGreatDoorB05
set_option linter.all false
section
set_option maxRecDepth 4000
set_option maxHeartbeats 4000000
namespace Go.Proofs.YthlclfdnhnnebaaGreatDoor
open Go.Sl Go.Sb
theorem gnew_spec (fr n : Nat) (to_ : Int) (hto : to_ = fr + n) (hfr : fr ≤ 5000) (hn : n ≤ 5000) :
    Does Tryz.prog 71 #[.int .i64 fr, .int .i64 to_] [] (GivesE (fun _ : Nat × Nat => True) (fun x => .pointer (some ⟨x.1, 0, none⟩)) (fun x => gm x.1 x.2 fr (List.replicate n 0))) := by
  refine does_enter Tryz.func71 rfl Tryz.ntmps71 rfl (fun R w0 => ?_)
  simp only [envOf, List.cons_append, List.nil_append]
  have hn0 : to_ - (fr : Int) = n := by omega
  have hmx : max (to_ - (fr : Int)) 0 = n := by omega
  refine cw_seq ?_
  refine cw_region ?_
  refine ow_y (y_assign rfl) ?_
  refine ow_nil ?_
  refine kw_code (fun _ _ h => h) ?_
  refine cw_seq ?_
  refine cw_region ?_
  refine ow_y (y_move rfl) ?_
  refine ow_y (y_move rfl) ?_
  refine ow_y (y_move rfl) ?_
  refine ow_y (y_subI rfl rfl (by omega)) ?_
  refine ow_y (y_max rfl rfl) ?_
  refine (ow_makeSlice1 (n := n) F.sl109 F.tb3 F.z3 rfl rfl rfl (by omega) (by omega) (by omega) (by omega) (fun b11 => ?_))
  refine ow_y (y_build F.pl198 rfl (by simp [fillL, nth, Value.cells] <;> rfl)) ?_
  refine (ow_box rfl (fun b13 => ?_))
  refine ow_y (y_assign rfl) ?_
  refine ow_nil ?_
  refine kw_code (fun _ _ h => h) ?_
  refine cw_seq ?_
  refine cw_tail 8 F.fol (by kernel_rfl) ?_
  simp only [List.take_succ_cons, List.take_zero, List.drop_succ_cons, List.drop_zero]
  refine os_y (y_move rfl) ?_
  refine os_y (y_move rfl) ?_
  refine os_y (y_nil rfl) ?_
  refine os_y (y_fld F.fld198_1 rfl) ?_
  refine os_y (y_load F.sc109 rfl (by rfl)) ?_
  refine os_y (y_len_slice F.sl109 rfl) ?_
  refine os_y (y_nil rfl) ?_
  refine os_y (y_fld F.fld198_2 rfl) ?_
  refine os_nil ?_
  refine ow_y (y_ixa F.ar196 rfl rfl (by omega)) ?_
  refine (ow_store F.sz3 rfl rfl (by first | rfl | assumption) (by rfl) (by (try simp only [List.set_cons_zero, List.set_cons_succ, Nat.reduceAdd, Nat.reduceMul, Int.reduceToNat, Nat.zero_add, Nat.add_zero]); rfl) ?_)
  refine ow_nil ?_
  refine kw_code (fun _ _ h => h) ?_
  refine cw_seq ?_
  refine cw_region ?_
  refine ow_y (y_move rfl) ?_
  refine ow_y (y_assign rfl) ?_
  refine ow_nil ?_
  refine kw_code (fun _ _ h => h) ?_
  have hc0 : (List.replicate n 0).count 0 = n := List.count_replicate_self
  have hc1 : (List.replicate n 0).count 1 = 0 := by rw [List.count_replicate]; simp
  have hc2 : (List.replicate n 0).count 2 = 0 := by rw [List.count_replicate]; simp
  refine cw_eqL (L' := gm b13 b11 fr (List.replicate n 0) ++ [R]) (by simp [gm, gcells, hc0, hc1, hc2, gst]) ?_
  refine cw_retE (b13, b11) trivial (fun _ _ h => h) rfl rfl aSp
theorem beq_int (a b : Nat) : ((a : Int) == (b : Int)) = decide (a = b) := by
  rw [show ((a : Int) == (b : Int)) = decide ((a : Int) = b) from rfl]
  exact decide_eq_decide.2 (by omega)
theorem gis_spec (b bl fr what : Nat) (l : List Nat) (at_ : Int) (ha : -9223372036854775808 ≤ at_ ∧ at_ ≤ 9223372036854775807) (hfr : fr ≤ 5000) (hl : l.length ≤ 5000) :
    Does Tryz.prog 213 #[.pointer (some ⟨b, 0, none⟩), .int .i64 at_, .int .i64 what] (gm b bl fr l) (Gives (.bool (isB fr l at_ what)) (gm b bl fr l)) := by
  by_cases h1 : at_ ≥ fr
  · by_cases h2 : at_ - fr < l.length
    · have hlt : (at_ - (fr : Int)).toNat < l.length := by omega
      have hs : l[(at_ - (fr : Int)).toNat]? = some l[(at_ - (fr : Int)).toNat] := List.getElem?_eq_getElem hlt
      refine does_enter Tryz.func213 rfl Tryz.ntmps213 rfl (fun R w0 => ?_)
      simp only [envOf, List.cons_append, List.nil_append, gm, gcells]
      refine cw_seq ?_
      refine cw_region ?_
      refine ow_y (y_assign rfl) ?_
      refine ow_nil ?_
      refine kw_code (fun _ _ h => h) ?_
      refine cw_seq ?_
      refine cw_soft F.fol (by kernel_rfl) ?_
      refine os_y (y_move rfl) ?_
      refine os_y (y_move rfl) ?_
      refine os_y (y_nil rfl) ?_
      refine os_y (y_fld F.fld198_0 rfl) ?_
      refine os_y (y_load F.sc3 rfl (by rfl)) ?_
      refine os_y (y_geq rfl rfl) ?_
      refine os_y (y_move rfl) ?_
      refine os_yg (fun a w hh => (want_of rfl rfl rfl hh).trans (wTT (by first | rfl | exact decide_eq_true (by omega)))) (y_move rfl) ?_
      refine os_yg (fun a w hh => (want_of rfl rfl rfl hh).trans (wTT (by first | rfl | exact decide_eq_true (by omega)))) (y_move rfl) ?_
      refine os_yg (fun a w hh => (want_of rfl rfl rfl hh).trans (wTT (by first | rfl | exact decide_eq_true (by omega)))) (y_nil rfl) ?_
      refine os_yg (fun a w hh => (want_of rfl rfl rfl hh).trans (wTT (by first | rfl | exact decide_eq_true (by omega)))) (y_fld F.fld198_0 rfl) ?_
      refine os_yg (fun a w hh => (want_of rfl rfl rfl hh).trans (wTT (by first | rfl | exact decide_eq_true (by omega)))) (y_load F.sc3 rfl (by rfl)) ?_
      refine os_yg (fun a w hh => (want_of rfl rfl rfl hh).trans (wTT (by first | rfl | exact decide_eq_true (by omega)))) (y_subI rfl rfl (by omega)) ?_
      refine os_yg (fun a w hh => (want_of rfl rfl rfl hh).trans (wTT (by first | rfl | exact decide_eq_true (by omega)))) (y_move rfl) ?_
      refine os_yg (fun a w hh => (want_of rfl rfl rfl hh).trans (wTT (by first | rfl | exact decide_eq_true (by omega)))) (y_nil rfl) ?_
      refine os_yg (fun a w hh => (want_of rfl rfl rfl hh).trans (wTT (by first | rfl | exact decide_eq_true (by omega)))) (y_fld F.fld198_1 rfl) ?_
      refine os_yg (fun a w hh => (want_of rfl rfl rfl hh).trans (wTT (by first | rfl | exact decide_eq_true (by omega)))) (y_load F.sc109 rfl (by rfl)) ?_
      refine os_yg (fun a w hh => (want_of rfl rfl rfl hh).trans (wTT (by first | rfl | exact decide_eq_true (by omega)))) (y_len_slice F.sl109 rfl) ?_
      refine os_yg (fun a w hh => (want_of rfl rfl rfl hh).trans (wTT (by first | rfl | exact decide_eq_true (by omega)))) (y_lss rfl rfl) ?_
      refine os_y (y_pickT rfl (by first | rfl | exact decide_eq_true (by omega)) rfl) ?_
      refine os_y (y_move rfl) ?_
      refine os_yg (fun a w hh => (want_of rfl rfl rfl hh).trans (wTT (by first | rfl | exact decide_eq_true (by omega)))) (y_move rfl) ?_
      refine os_yg (fun a w hh => (want_of rfl rfl rfl hh).trans (wTT (by first | rfl | exact decide_eq_true (by omega)))) (y_nil rfl) ?_
      refine os_yg (fun a w hh => (want_of rfl rfl rfl hh).trans (wTT (by first | rfl | exact decide_eq_true (by omega)))) (y_fld F.fld198_1 rfl) ?_
      refine os_yg (fun a w hh => (want_of rfl rfl rfl hh).trans (wTT (by first | rfl | exact decide_eq_true (by omega)))) (y_load F.sc109 rfl (by rfl)) ?_
      refine os_yg (fun a w hh => (want_of rfl rfl rfl hh).trans (wTT (by first | rfl | exact decide_eq_true (by omega)))) (y_move rfl) ?_
      refine os_yg (fun a w hh => (want_of rfl rfl rfl hh).trans (wTT (by first | rfl | exact decide_eq_true (by omega)))) (y_move rfl) ?_
      refine os_yg (fun a w hh => (want_of rfl rfl rfl hh).trans (wTT (by first | rfl | exact decide_eq_true (by omega)))) (y_nil rfl) ?_
      refine os_yg (fun a w hh => (want_of rfl rfl rfl hh).trans (wTT (by first | rfl | exact decide_eq_true (by omega)))) (y_fld F.fld198_0 rfl) ?_
      refine os_yg (fun a w hh => (want_of rfl rfl rfl hh).trans (wTT (by first | rfl | exact decide_eq_true (by omega)))) (y_load F.sc3 rfl (by rfl)) ?_
      refine os_yg (fun a w hh => (want_of rfl rfl rfl hh).trans (wTT (by first | rfl | exact decide_eq_true (by omega)))) (y_subI rfl rfl (by omega)) ?_
      refine os_yg (fun a w hh => (want_of rfl rfl rfl hh).trans (wTT (by first | rfl | exact decide_eq_true (by omega)))) (y_ixs F.sl109 rfl rfl (by omega)) ?_
      refine os_yg (fun a w hh => (want_of rfl rfl rfl hh).trans (wTT (by first | rfl | exact decide_eq_true (by omega)))) (y_load F.sc3 rfl (gst_at hs (by omega))) ?_
      refine os_yg (fun a w hh => (want_of rfl rfl rfl hh).trans (wTT (by first | rfl | exact decide_eq_true (by omega)))) (y_move rfl) ?_
      refine os_yg (fun a w hh => (want_of rfl rfl rfl hh).trans (wTT (by first | rfl | exact decide_eq_true (by omega)))) (y_eql rfl rfl) ?_
      refine os_y (y_pickT rfl (by first | rfl | exact decide_eq_true (by omega)) rfl) ?_
      refine os_y (y_assign rfl) ?_
      refine os_nil ?_
      refine kw_code (fun _ _ h => h) ?_
      refine cw_retG (fun _ _ h => h) rfl (by simp only [isB, h1, h2, decide_true, Bool.true_and, hs, Option.some.injEq]; rw [beq_int]) aSp
    · skip
      refine does_enter Tryz.func213 rfl Tryz.ntmps213 rfl (fun R w0 => ?_)
      simp only [envOf, List.cons_append, List.nil_append, gm, gcells]
      refine cw_seq ?_
      refine cw_region ?_
      refine ow_y (y_assign rfl) ?_
      refine ow_nil ?_
      refine kw_code (fun _ _ h => h) ?_
      refine cw_seq ?_
      refine cw_soft F.fol (by kernel_rfl) ?_
      refine os_y (y_move rfl) ?_
      refine os_y (y_move rfl) ?_
      refine os_y (y_nil rfl) ?_
      refine os_y (y_fld F.fld198_0 rfl) ?_
      refine os_y (y_load F.sc3 rfl (by rfl)) ?_
      refine os_y (y_geq rfl rfl) ?_
      refine os_y (y_move rfl) ?_
      refine os_yg (fun a w hh => (want_of rfl rfl rfl hh).trans (wTT (by first | rfl | exact decide_eq_true (by omega)))) (y_move rfl) ?_
      refine os_yg (fun a w hh => (want_of rfl rfl rfl hh).trans (wTT (by first | rfl | exact decide_eq_true (by omega)))) (y_move rfl) ?_
      refine os_yg (fun a w hh => (want_of rfl rfl rfl hh).trans (wTT (by first | rfl | exact decide_eq_true (by omega)))) (y_nil rfl) ?_
      refine os_yg (fun a w hh => (want_of rfl rfl rfl hh).trans (wTT (by first | rfl | exact decide_eq_true (by omega)))) (y_fld F.fld198_0 rfl) ?_
      refine os_yg (fun a w hh => (want_of rfl rfl rfl hh).trans (wTT (by first | rfl | exact decide_eq_true (by omega)))) (y_load F.sc3 rfl (by rfl)) ?_
      refine os_yg (fun a w hh => (want_of rfl rfl rfl hh).trans (wTT (by first | rfl | exact decide_eq_true (by omega)))) (y_subI rfl rfl (by omega)) ?_
      refine os_yg (fun a w hh => (want_of rfl rfl rfl hh).trans (wTT (by first | rfl | exact decide_eq_true (by omega)))) (y_move rfl) ?_
      refine os_yg (fun a w hh => (want_of rfl rfl rfl hh).trans (wTT (by first | rfl | exact decide_eq_true (by omega)))) (y_nil rfl) ?_
      refine os_yg (fun a w hh => (want_of rfl rfl rfl hh).trans (wTT (by first | rfl | exact decide_eq_true (by omega)))) (y_fld F.fld198_1 rfl) ?_
      refine os_yg (fun a w hh => (want_of rfl rfl rfl hh).trans (wTT (by first | rfl | exact decide_eq_true (by omega)))) (y_load F.sc109 rfl (by rfl)) ?_
      refine os_yg (fun a w hh => (want_of rfl rfl rfl hh).trans (wTT (by first | rfl | exact decide_eq_true (by omega)))) (y_len_slice F.sl109 rfl) ?_
      refine os_yg (fun a w hh => (want_of rfl rfl rfl hh).trans (wTT (by first | rfl | exact decide_eq_true (by omega)))) (y_lss rfl rfl) ?_
      refine os_y (y_pickT rfl (by first | rfl | exact decide_eq_true (by omega)) rfl) ?_
      refine os_y (y_move rfl) ?_
      refine os_skip (fun a w hh => (want_of rfl rfl rfl hh).trans (wTF (by first | rfl | exact decide_eq_false (by omega)))) rfl ?_
      refine os_skip (fun a w hh => (want_of rfl rfl rfl hh).trans (wTF (by first | rfl | exact decide_eq_false (by omega)))) rfl ?_
      refine os_skip (fun a w hh => (want_of rfl rfl rfl hh).trans (wTF (by first | rfl | exact decide_eq_false (by omega)))) rfl ?_
      refine os_skip (fun a w hh => (want_of rfl rfl rfl hh).trans (wTF (by first | rfl | exact decide_eq_false (by omega)))) rfl ?_
      refine os_skip (fun a w hh => (want_of rfl rfl rfl hh).trans (wTF (by first | rfl | exact decide_eq_false (by omega)))) rfl ?_
      refine os_skip (fun a w hh => (want_of rfl rfl rfl hh).trans (wTF (by first | rfl | exact decide_eq_false (by omega)))) rfl ?_
      refine os_skip (fun a w hh => (want_of rfl rfl rfl hh).trans (wTF (by first | rfl | exact decide_eq_false (by omega)))) rfl ?_
      refine os_skip (fun a w hh => (want_of rfl rfl rfl hh).trans (wTF (by first | rfl | exact decide_eq_false (by omega)))) rfl ?_
      refine os_skip (fun a w hh => (want_of rfl rfl rfl hh).trans (wTF (by first | rfl | exact decide_eq_false (by omega)))) rfl ?_
      refine os_skip (fun a w hh => (want_of rfl rfl rfl hh).trans (wTF (by first | rfl | exact decide_eq_false (by omega)))) rfl ?_
      refine os_skip (fun a w hh => (want_of rfl rfl rfl hh).trans (wTF (by first | rfl | exact decide_eq_false (by omega)))) rfl ?_
      refine os_skip (fun a w hh => (want_of rfl rfl rfl hh).trans (wTF (by first | rfl | exact decide_eq_false (by omega)))) rfl ?_
      refine os_skip (fun a w hh => (want_of rfl rfl rfl hh).trans (wTF (by first | rfl | exact decide_eq_false (by omega)))) rfl ?_
      refine os_skip (fun a w hh => (want_of rfl rfl rfl hh).trans (wTF (by first | rfl | exact decide_eq_false (by omega)))) rfl ?_
      refine os_y (y_pickF rfl (by first | rfl | exact decide_eq_false (by omega)) rfl) ?_
      refine os_y (y_assign rfl) ?_
      refine os_nil ?_
      refine kw_code (fun _ _ h => h) ?_
      refine cw_retG (fun _ _ h => h) rfl (by simp [isB, h2]) aSp
  · skip
    refine does_enter Tryz.func213 rfl Tryz.ntmps213 rfl (fun R w0 => ?_)
    simp only [envOf, List.cons_append, List.nil_append, gm, gcells]
    refine cw_seq ?_
    refine cw_region ?_
    refine ow_y (y_assign rfl) ?_
    refine ow_nil ?_
    refine kw_code (fun _ _ h => h) ?_
    refine cw_seq ?_
    refine cw_soft F.fol (by kernel_rfl) ?_
    refine os_y (y_move rfl) ?_
    refine os_y (y_move rfl) ?_
    refine os_y (y_nil rfl) ?_
    refine os_y (y_fld F.fld198_0 rfl) ?_
    refine os_y (y_load F.sc3 rfl (by rfl)) ?_
    refine os_y (y_geq rfl rfl) ?_
    refine os_y (y_move rfl) ?_
    refine os_skip (fun a w hh => (want_of rfl rfl rfl hh).trans (wTF (by first | rfl | exact decide_eq_false (by omega)))) rfl ?_
    refine os_skip (fun a w hh => (want_of rfl rfl rfl hh).trans (wTF (by first | rfl | exact decide_eq_false (by omega)))) rfl ?_
    refine os_skip (fun a w hh => (want_of rfl rfl rfl hh).trans (wTF (by first | rfl | exact decide_eq_false (by omega)))) rfl ?_
    refine os_skip (fun a w hh => (want_of rfl rfl rfl hh).trans (wTF (by first | rfl | exact decide_eq_false (by omega)))) rfl ?_
    refine os_skip (fun a w hh => (want_of rfl rfl rfl hh).trans (wTF (by first | rfl | exact decide_eq_false (by omega)))) rfl ?_
    refine os_skip (fun a w hh => (want_of rfl rfl rfl hh).trans (wTF (by first | rfl | exact decide_eq_false (by omega)))) rfl ?_
    refine os_skip (fun a w hh => (want_of rfl rfl rfl hh).trans (wTF (by first | rfl | exact decide_eq_false (by omega)))) rfl ?_
    refine os_skip (fun a w hh => (want_of rfl rfl rfl hh).trans (wTF (by first | rfl | exact decide_eq_false (by omega)))) rfl ?_
    refine os_skip (fun a w hh => (want_of rfl rfl rfl hh).trans (wTF (by first | rfl | exact decide_eq_false (by omega)))) rfl ?_
    refine os_skip (fun a w hh => (want_of rfl rfl rfl hh).trans (wTF (by first | rfl | exact decide_eq_false (by omega)))) rfl ?_
    refine os_skip (fun a w hh => (want_of rfl rfl rfl hh).trans (wTF (by first | rfl | exact decide_eq_false (by omega)))) rfl ?_
    refine os_skip (fun a w hh => (want_of rfl rfl rfl hh).trans (wTF (by first | rfl | exact decide_eq_false (by omega)))) rfl ?_
    refine os_y (y_pickF rfl (by first | rfl | exact decide_eq_false (by omega)) rfl) ?_
    refine os_y (y_move rfl) ?_
    refine os_skip (fun a w hh => (want_of rfl rfl rfl hh).trans (wTF (by first | rfl | exact decide_eq_false (by omega)))) rfl ?_
    refine os_skip (fun a w hh => (want_of rfl rfl rfl hh).trans (wTF (by first | rfl | exact decide_eq_false (by omega)))) rfl ?_
    refine os_skip (fun a w hh => (want_of rfl rfl rfl hh).trans (wTF (by first | rfl | exact decide_eq_false (by omega)))) rfl ?_
    refine os_skip (fun a w hh => (want_of rfl rfl rfl hh).trans (wTF (by first | rfl | exact decide_eq_false (by omega)))) rfl ?_
    refine os_skip (fun a w hh => (want_of rfl rfl rfl hh).trans (wTF (by first | rfl | exact decide_eq_false (by omega)))) rfl ?_
    refine os_skip (fun a w hh => (want_of rfl rfl rfl hh).trans (wTF (by first | rfl | exact decide_eq_false (by omega)))) rfl ?_
    refine os_skip (fun a w hh => (want_of rfl rfl rfl hh).trans (wTF (by first | rfl | exact decide_eq_false (by omega)))) rfl ?_
    refine os_skip (fun a w hh => (want_of rfl rfl rfl hh).trans (wTF (by first | rfl | exact decide_eq_false (by omega)))) rfl ?_
    refine os_skip (fun a w hh => (want_of rfl rfl rfl hh).trans (wTF (by first | rfl | exact decide_eq_false (by omega)))) rfl ?_
    refine os_skip (fun a w hh => (want_of rfl rfl rfl hh).trans (wTF (by first | rfl | exact decide_eq_false (by omega)))) rfl ?_
    refine os_skip (fun a w hh => (want_of rfl rfl rfl hh).trans (wTF (by first | rfl | exact decide_eq_false (by omega)))) rfl ?_
    refine os_skip (fun a w hh => (want_of rfl rfl rfl hh).trans (wTF (by first | rfl | exact decide_eq_false (by omega)))) rfl ?_
    refine os_skip (fun a w hh => (want_of rfl rfl rfl hh).trans (wTF (by first | rfl | exact decide_eq_false (by omega)))) rfl ?_
    refine os_skip (fun a w hh => (want_of rfl rfl rfl hh).trans (wTF (by first | rfl | exact decide_eq_false (by omega)))) rfl ?_
    refine os_y (y_pickF rfl (by first | rfl | exact decide_eq_false (by omega)) rfl) ?_
    refine os_y (y_assign rfl) ?_
    refine os_nil ?_
    refine kw_code (fun _ _ h => h) ?_
    refine cw_retG (fun _ _ h => h) rfl (by simp [isB, h1]) aSp
theorem isB_at {fr : Nat} {l : List Nat} {at_ : Int} {k : Nat} (h : isB fr l at_ k = true) : ∃ i : Nat, at_ = fr + i ∧ l[i]? = some k := by
  simp only [isB, Bool.and_eq_true, decide_eq_true_eq] at h
  exact ⟨(at_ - fr).toNat, by omega, h.2.2⟩
theorem gmove_spec (b bl fr k to_ : Nat) (l : List Nat) (at_ : Int) (ha : -9223372036854775808 ≤ at_ ∧ at_ ≤ 9223372036854775807) (hk : k < 3) (ht : to_ < 3) (hfr : fr ≤ 5000) (hl : l.length ≤ 5000) :
    Does Tryz.prog 179 #[.pointer (some ⟨b, 0, none⟩), .int .i64 at_, .int .i64 k, .int .i64 to_] (gm b bl fr l) (Gives (.bool (isB fr l at_ k)) (gm b bl fr (mvL fr l at_ k to_))) := by
  cases hb : isB fr l at_ k with
  | true =>
    obtain ⟨i, hi, hs⟩ := isB_at hb
    have hti : (at_ - (fr : Int)).toNat = i := by omega
    have hset := gset_spec b bl fr i k to_ l at_ hi hs hk ht hfr hl
    simp only [mvL, hb, hti]
    refine does_enter Tryz.func179 rfl Tryz.ntmps179 rfl (fun R w0 => ?_)
    simp only [envOf, List.cons_append, List.nil_append]
    refine cw_seq ?_
    refine cw_region ?_
    refine ow_y (y_assign rfl) ?_
    refine ow_nil ?_
    refine kw_code (fun _ _ h => h) ?_
    refine cw_seq ?_
    refine cw_seq ?_
    refine cw_region ?_
    refine ow_y (y_move rfl) ?_
    refine ow_y (y_move rfl) ?_
    refine ow_y (y_move rfl) ?_
    refine ow_gives rfl F.hb213 rfl (gis_spec b bl fr k l at_ ha hfr hl) aSp ?_
    try simp only [List.cons_append, List.nil_append]
    refine ow_y (y_not rfl) ?_
    refine ow_nil ?_
    refine kw_code (fun _ _ h => h) ?_
    refine cw_false rfl (by rw [hb]; rfl) ?_
    refine cw_skip ?_
    refine kw_code (fun _ _ h => h) ?_
    refine cw_seq ?_
    refine cw_region ?_
    refine ow_y (y_move rfl) ?_
    refine ow_y (y_move rfl) ?_
    refine ow_y (y_move rfl) ?_
    refine ow_gives rfl F.hb142 rfl (hset) aSp ?_
    try simp only [List.cons_append, List.nil_append]
    refine ow_nil ?_
    refine kw_code (fun _ _ h => h) ?_
    refine cw_seq ?_
    refine cw_region ?_
    refine ow_y (y_assign rfl) ?_
    refine ow_nil ?_
    refine kw_code (fun _ _ h => h) ?_
    refine cw_retG (fun _ _ h => h) rfl rfl aSp
  | false =>
    simp only [mvL, hb]
    refine does_enter Tryz.func179 rfl Tryz.ntmps179 rfl (fun R w0 => ?_)
    simp only [envOf, List.cons_append, List.nil_append]
    refine cw_seq ?_
    refine cw_region ?_
    refine ow_y (y_assign rfl) ?_
    refine ow_nil ?_
    refine kw_code (fun _ _ h => h) ?_
    refine cw_seq ?_
    refine cw_seq ?_
    refine cw_region ?_
    refine ow_y (y_move rfl) ?_
    refine ow_y (y_move rfl) ?_
    refine ow_y (y_move rfl) ?_
    refine ow_gives rfl F.hb213 rfl (gis_spec b bl fr k l at_ ha hfr hl) aSp ?_
    try simp only [List.cons_append, List.nil_append]
    refine ow_y (y_not rfl) ?_
    refine ow_nil ?_
    refine kw_code (fun _ _ h => h) ?_
    refine cw_true rfl (by rw [hb]; rfl) ?_
    refine cw_seq ?_
    refine cw_region ?_
    refine ow_y (y_assign rfl) ?_
    refine ow_nil ?_
    refine kw_code (fun _ _ h => h) ?_
    refine cw_retG (fun _ _ h => h) rfl rfl aSp
theorem ggive_spec (b bl fr : Nat) (l : List Nat) (at_ : Int) (ha : -9223372036854775808 ≤ at_ ∧ at_ ≤ 9223372036854775807) (hfr : fr ≤ 5000) (hl : l.length ≤ 5000) :
    Does Tryz.prog 133 #[.pointer (some ⟨b, 0, none⟩), .int .i64 at_] (gm b bl fr l) (Gives (.bool (isB fr l at_ 1)) (gm b bl fr (mvL fr l at_ 1 0))) := by
  refine does_enter Tryz.func133 rfl Tryz.ntmps133 rfl (fun R w0 => ?_)
  simp only [envOf, List.cons_append, List.nil_append]
  refine cw_seq ?_
  refine cw_region ?_
  refine ow_y (y_assign rfl) ?_
  refine ow_nil ?_
  refine kw_code (fun _ _ h => h) ?_
  refine cw_seq ?_
  refine cw_region ?_
  refine ow_y (y_move rfl) ?_
  refine ow_y (y_move rfl) ?_
  refine ow_gives rfl F.hb179 rfl (gmove_spec b bl fr 1 0 l at_ ha (by decide) (by decide) hfr hl) aSp ?_
  try simp only [List.cons_append, List.nil_append]
  refine ow_y (y_assign rfl) ?_
  refine ow_nil ?_
  refine kw_code (fun _ _ h => h) ?_
  refine cw_retG (fun _ _ h => h) rfl rfl aSp
theorem glater_spec (b bl fr : Nat) (l : List Nat) (at_ : Int) (ha : -9223372036854775808 ≤ at_ ∧ at_ ≤ 9223372036854775807) (hfr : fr ≤ 5000) (hl : l.length ≤ 5000) :
    Does Tryz.prog 244 #[.pointer (some ⟨b, 0, none⟩), .int .i64 at_] (gm b bl fr l) (Gives (.bool (isB fr l at_ 1)) (gm b bl fr (mvL fr l at_ 1 2))) := by
  refine does_enter Tryz.func244 rfl Tryz.ntmps244 rfl (fun R w0 => ?_)
  simp only [envOf, List.cons_append, List.nil_append]
  refine cw_seq ?_
  refine cw_region ?_
  refine ow_y (y_assign rfl) ?_
  refine ow_nil ?_
  refine kw_code (fun _ _ h => h) ?_
  refine cw_seq ?_
  refine cw_region ?_
  refine ow_y (y_move rfl) ?_
  refine ow_y (y_move rfl) ?_
  refine ow_gives rfl F.hb179 rfl (gmove_spec b bl fr 1 2 l at_ ha (by decide) (by decide) hfr hl) aSp ?_
  try simp only [List.cons_append, List.nil_append]
  refine ow_y (y_assign rfl) ?_
  refine ow_nil ?_
  refine kw_code (fun _ _ h => h) ?_
  refine cw_retG (fun _ _ h => h) rfl rfl aSp
theorem gback_spec (b bl fr : Nat) (l : List Nat) (at_ : Int) (ha : -9223372036854775808 ≤ at_ ∧ at_ ≤ 9223372036854775807) (hfr : fr ≤ 5000) (hl : l.length ≤ 5000) :
    Does Tryz.prog 132 #[.pointer (some ⟨b, 0, none⟩), .int .i64 at_] (gm b bl fr l) (Gives (.bool (isB fr l at_ 2)) (gm b bl fr (mvL fr l at_ 2 1))) := by
  refine does_enter Tryz.func132 rfl Tryz.ntmps132 rfl (fun R w0 => ?_)
  simp only [envOf, List.cons_append, List.nil_append]
  refine cw_seq ?_
  refine cw_region ?_
  refine ow_y (y_assign rfl) ?_
  refine ow_nil ?_
  refine kw_code (fun _ _ h => h) ?_
  refine cw_seq ?_
  refine cw_region ?_
  refine ow_y (y_move rfl) ?_
  refine ow_y (y_move rfl) ?_
  refine ow_gives rfl F.hb179 rfl (gmove_spec b bl fr 2 1 l at_ ha (by decide) (by decide) hfr hl) aSp ?_
  try simp only [List.cons_append, List.nil_append]
  refine ow_y (y_assign rfl) ?_
  refine ow_nil ?_
  refine kw_code (fun _ _ h => h) ?_
  refine cw_retG (fun _ _ h => h) rfl rfl aSp
theorem gFree_spec (b bl fr : Nat) (l : List Nat) :
    Does Tryz.prog 124 #[.pointer (some ⟨b, 0, none⟩)] (gm b bl fr l) (Gives (.int .i64 (l.count 0)) (gm b bl fr l)) := by
  refine does_enter Tryz.func124 rfl Tryz.ntmps124 rfl (fun R w0 => ?_)
  simp only [envOf, List.cons_append, List.nil_append, gm, gcells]
  refine cw_seq ?_
  refine cw_region ?_
  refine ow_y (y_assign rfl) ?_
  refine ow_nil ?_
  refine kw_code (fun _ _ h => h) ?_
  refine cw_seq ?_
  refine cw_region ?_
  refine ow_y (y_move rfl) ?_
  refine ow_y (y_nil rfl) ?_
  refine ow_y (y_fld F.fld198_2 rfl) ?_
  refine ow_y (y_ixa F.ar196 rfl rfl (by omega)) ?_
  refine ow_y (y_load F.sc3 rfl (by rfl)) ?_
  refine ow_y (y_assign rfl) ?_
  refine ow_nil ?_
  refine kw_code (fun _ _ h => h) ?_
  refine cw_retG (fun _ _ h => h) rfl rfl aSp
theorem gtake_spec (b bl fr : Nat) (l : List Nat) (hfr : fr ≤ 5000) (hl : l.length ≤ 5000) :
    Does Tryz.prog 207 #[.pointer (some ⟨b, 0, none⟩)] (gm b bl fr l)
      (Gives (match l.findIdx? (· == 0) with | some i => .tuple #[.int .i64 (fr + i), .bool true] | none => .tuple #[.int .i64 0, .bool false])
        (gm b bl fr (match l.findIdx? (· == 0) with | some i => l.set i 1 | none => l))) := by
  refine does_enter Tryz.func207 rfl Tryz.ntmps207 rfl (fun R w0 => ?_)
  simp only [envOf, List.cons_append, List.nil_append, gm, gcells]
  refine cw_seq ?_
  refine cw_region ?_
  refine ow_y (y_assign rfl) ?_
  refine ow_y (y_assign rfl) ?_
  refine ow_nil ?_
  refine kw_code (fun _ _ h => h) ?_
  refine cw_seq ?_
  refine cw_seq ?_
  refine cw_region ?_
  refine ow_y (y_move rfl) ?_
  refine ow_y (y_nil rfl) ?_
  refine ow_y (y_fld F.fld198_1 rfl) ?_
  refine ow_y (y_load F.sc109 rfl (by rfl)) ?_
  refine ow_y (y_len_slice F.sl109 rfl) ?_
  refine ow_y (y_move rfl) ?_
  refine ow_nil ?_
  refine kw_code (fun _ _ h => h) ?_
  refine cw_block ?_
  refine cw_loop (X := {i : Nat // i ≤ l.length ∧ ∀ j (hj : j < l.length), j < i → l[j] ≠ 0}) (fun x => [(0, .pointer (some ⟨b, 0, none⟩)), (9, .slice (some ⟨bl, 0, none⟩) l.length l.length), (10, .int .i64 l.length), (11, .int .i64 x.1)]) (fun x => gm b bl fr l ++ [R]) (fun x => l.length - x.1) ⟨0, by omega, fun j _ h => by omega⟩ (by repeat (first | exact Sub.nil | refine Sub.cons rfl ?_)) aSp ?_
  rintro ⟨i, hi, hpre⟩ m0 hm0
  try simp only at hm0
  try dsimp only
  simp only [gm, gcells, List.cons_append, List.nil_append]
  refine cw_seq ?_
  refine cw_region ?_
  refine ow_y (y_lss rfl rfl) ?_
  refine ow_nil ?_
  refine kw_code (fun _ _ h => h) ?_
  refine cw_seq ?_
  refine cw_if rfl (fun hb12 => ?_) (fun hb12 => ?_)
  · skip
    have hlt : i < l.length := by have := of_decide_eq_true hb12; omega
    have hs : l[i]? = some l[i] := List.getElem?_eq_getElem hlt
    refine cw_skip ?_
    refine kw_code (fun _ _ h => h) ?_
    refine cw_seq ?_
    refine cw_block ?_
    refine cw_seq ?_
    refine cw_region ?_
    refine ow_y (y_move rfl) ?_
    refine ow_y (y_ixs F.sl109 rfl rfl (by omega)) ?_
    refine ow_y (y_load F.sc3 rfl (gst_at hs (by omega))) ?_
    refine ow_y (y_assign rfl) ?_
    refine ow_y (y_assign rfl) ?_
    refine ow_nil ?_
    refine kw_code (fun _ _ h => h) ?_
    refine cw_seq ?_
    refine cw_region ?_
    refine ow_y (y_move rfl) ?_
    refine ow_y (y_eql rfl rfl) ?_
    refine ow_nil ?_
    refine kw_code (fun _ _ h => h) ?_
    refine cw_if rfl (fun hb17 => ?_) (fun hb17 => ?_)
    · skip
      have hz : l[i] = 0 := by have := eq_of_beq hb17; omega
      have hf : l.findIdx? (· == 0) = some i := by
        rw [List.findIdx?_eq_some_iff_getElem]
        exact ⟨hlt, by simp [hz], fun j hj => by simpa using hpre j (by omega) hj⟩
      have hset := gset_spec b bl fr i 0 1 l (fr + i) (by omega) (by rw [hs, hz]) (by decide) (by decide) hfr hl
      simp only [hf]
      refine cw_seq ?_
      refine cw_region ?_
      refine ow_y (y_move rfl) ?_
      refine ow_y (y_move rfl) ?_
      refine ow_y (y_nil rfl) ?_
      refine ow_y (y_fld F.fld198_0 rfl) ?_
      refine ow_y (y_load F.sc3 rfl (by rfl)) ?_
      refine ow_y (y_move rfl) ?_
      refine ow_y (y_addI rfl rfl (by omega)) ?_
      refine ow_gives rfl F.hb142 rfl (hset) aSp ?_
      try simp only [List.cons_append, List.nil_append]
      refine ow_nil ?_
      refine kw_code (fun _ _ h => h) ?_
      refine cw_seq ?_
      refine cw_region ?_
      refine ow_y (y_move rfl) ?_
      refine ow_y (y_nil rfl) ?_
      refine ow_y (y_fld F.fld198_0 rfl) ?_
      refine ow_y (y_load F.sc3 rfl (by rfl)) ?_
      refine ow_y (y_move rfl) ?_
      refine ow_y (y_addI rfl rfl (by omega)) ?_
      refine ow_y (y_assign rfl) ?_
      refine ow_y (y_assign rfl) ?_
      refine ow_nil ?_
      refine kw_code (fun _ _ h => h) ?_
      refine cw_retG (fun _ _ h => h) rfl rfl aSp
    · skip
      have hz : l[i] ≠ 0 := by intro h; rw [h] at hb17; exact absurd hb17 (by decide)
      refine cw_skip ?_
      refine kw_code (fun _ _ h => h) ?_
      refine cw_region ?_
      refine ow_y (y_addI rfl rfl (by omega)) ?_
      refine ow_y (y_move rfl) ?_
      refine ow_nil ?_
      refine kw_rnd (fun _ _ h => h) (⟨i + 1, hlt, fun j hj h => ?_⟩) (by first | omega | (simp only; omega)) (by repeat (first | exact Sub.nil | refine Sub.cons rfl ?_)) aSp
      rcases Nat.lt_succ_iff_lt_or_eq.1 h with h | h
      · exact hpre j hj h
      · subst h; exact hz
  · skip
    have hge : i = l.length := by have := of_decide_eq_false hb12; omega
    have hf : l.findIdx? (· == 0) = none := by
      rw [List.findIdx?_eq_none_iff]
      intro x hx
      obtain ⟨j, hj, rfl⟩ := List.getElem_of_mem hx
      simpa using hpre j hj (by omega)
    simp only [hf]
    refine cw_exit ?_
    refine kw_code (fun _ _ h => h) ?_
    refine cw_seq ?_
    refine cw_region ?_
    refine ow_y (y_assign rfl) ?_
    refine ow_y (y_assign rfl) ?_
    refine ow_nil ?_
    refine kw_code (fun _ _ h => h) ?_
    refine cw_retG (fun _ _ h => h) rfl rfl aSp
end Go.Proofs.YthlclfdnhnnebaaGreatDoor
end
section
set_option maxRecDepth 4000
set_option maxHeartbeats 4000000
namespace Go.Proofs.YthlclfdnhnnebaaGreatDoor
open Go.Sl Go.Sb
end Go.Proofs.YthlclfdnhnnebaaGreatDoor
end
section
namespace Go.Crc
def poly : BitVec 32 := 0x82f63b78#32
def stp (x : BitVec 32) : BitVec 32 := (x >>> 1) ^^^ (if x.getLsbD 0 then poly else 0#32)
theorem ite_xor (p q : Bool) : (if (p ^^ q) then poly else 0#32) = (if p then poly else 0#32) ^^^ (if q then poly else 0#32) := by
  cases p <;> cases q <;> decide
theorem stp_xor (a b : BitVec 32) : stp (a ^^^ b) = stp a ^^^ stp b := by
  unfold stp
  rw [BitVec.getLsbD_xor, ite_xor]
  have h : (a ^^^ b) >>> 1 = (a >>> 1) ^^^ (b >>> 1) := by
    apply BitVec.eq_of_getLsbD_eq; intro i hi; simp
  rw [h]; ac_rfl
def stpN : Nat → BitVec 32 → BitVec 32
  | 0, x => x
  | n + 1, x => stpN n (stp x)
theorem stpN_xor (n : Nat) : ∀ a b, stpN n (a ^^^ b) = stpN n a ^^^ stpN n b := by
  induction n with
  | zero => intro a b; rfl
  | succ n ih => intro a b; simp only [stpN, stp_xor, ih]
theorem stpN_add (m n : Nat) : ∀ x, stpN (m + n) x = stpN n (stpN m x) := by
  induction m with
  | zero => intro x; simp [stpN]
  | succ m ih => intro x; rw [show m + 1 + n = (m + n) + 1 by omega]; simp only [stpN, ih]
theorem stp_shl (y : BitVec 32) (h : y.getLsbD 31 = false) : stp (y <<< 1) = y := by
  unfold stp
  have h0 : (y <<< 1).getLsbD 0 = false := by simp
  rw [h0]
  apply BitVec.eq_of_getLsbD_eq; intro i hi
  by_cases h31 : i = 31
  · subst h31; simpa using h
  · simp; omega
theorem stpN_shl (n : Nat) : ∀ (y : BitVec 32), (∀ i, 32 - n ≤ i → y.getLsbD i = false) → n ≤ 32 → stpN n (y <<< n) = y := by
  induction n with
  | zero => intro y _ _; simp [stpN]
  | succ n ih =>
    intro y h hn
    have e : y <<< (n + 1) = (y <<< n) <<< 1 := by rw [← BitVec.shiftLeft_add]
    have hb : (y <<< n).getLsbD 31 = false := by
      have h3 := h (31 - n) (by omega)
      rw [BitVec.getLsbD_shiftLeft, h3]; simp
    simp only [stpN]
    rw [e, stp_shl _ hb]
    exact ih y (fun i hi => h i (by omega)) (by omega)
def tab (i : BitVec 32) : BitVec 32 := stpN 4 i
def nib (x : BitVec 32) : BitVec 32 := (x >>> 4) ^^^ tab (x &&& 15#32)
theorem split_nib (x : BitVec 32) : x = ((x >>> 4) <<< 4) ^^^ (x &&& 15#32) := by
  apply BitVec.eq_of_getLsbD_eq; intro i hi
  have h15 : ∀ i, (15#32).getLsbD i = decide (i < 4) := by
    intro i
    by_cases h : i < 32
    · revert i; decide
    · rw [BitVec.getLsbD_of_ge _ _ (by omega)]; simp; omega
  by_cases h4 : i < 4
  · have hm : (x &&& 15#32).getLsbD i = x.getLsbD i := by rw [BitVec.getLsbD_and, h15]; simp [h4]
    rw [BitVec.getLsbD_xor, hm]; simp [h4]
  · have : 4 + (i - 4) = i := by omega
    have hm : (x &&& 15#32).getLsbD i = false := by rw [BitVec.getLsbD_and, h15]; simp [h4]
    rw [BitVec.getLsbD_xor, hm]; simp [this, hi, h4]
theorem nib_eq (x : BitVec 32) : nib x = stpN 4 x := by
  have h := split_nib x
  have hs : stpN 4 ((x >>> 4) <<< 4) = x >>> 4 := by
    apply stpN_shl
    · intro i hi; simp; exact BitVec.getLsbD_of_ge _ _ (by omega)
    · omega
  rw [show stpN 4 x = stpN 4 (((x >>> 4) <<< 4) ^^^ (x &&& 15#32)) from congrArg _ h]
  rw [stpN_xor, hs]; rfl
def byt (x : BitVec 32) (c : UInt8) : BitVec 32 := stpN 8 (x ^^^ c.toBitVec.setWidth 32)
theorem byt_nib (x : BitVec 32) (c : UInt8) : byt x c = nib (nib (x ^^^ c.toBitVec.setWidth 32)) := by
  unfold byt; rw [nib_eq, nib_eq, ← stpN_add]
def run (x : BitVec 32) (l : List UInt8) : BitVec 32 := l.foldl byt x
def crc (l : List UInt8) : BitVec 32 := ~~~ (run (~~~ 0#32) l)
theorem run_append (x : BitVec 32) (a b : List UInt8) : run x (a ++ b) = run (run x a) b := by simp [run]
-- linear part: the difference of two runs
end Go.Crc
end
section
namespace Go.Sb.Sha
abbrev W := BitVec 32
def rounds : List W := [
  0x428a2f98, 0x71374491, 0xb5c0fbcf, 0xe9b5dba5, 0x3956c25b, 0x59f111f1, 0x923f82a4, 0xab1c5ed5,
  0xd807aa98, 0x12835b01, 0x243185be, 0x550c7dc3, 0x72be5d74, 0x80deb1fe, 0x9bdc06a7, 0xc19bf174,
  0xe49b69c1, 0xefbe4786, 0x0fc19dc6, 0x240ca1cc, 0x2de92c6f, 0x4a7484aa, 0x5cb0a9dc, 0x76f988da,
  0x983e5152, 0xa831c66d, 0xb00327c8, 0xbf597fc7, 0xc6e00bf3, 0xd5a79147, 0x06ca6351, 0x14292967,
  0x27b70a85, 0x2e1b2138, 0x4d2c6dfc, 0x53380d13, 0x650a7354, 0x766a0abb, 0x81c2c92e, 0x92722c85,
  0xa2bfe8a1, 0xa81a664b, 0xc24b8b70, 0xc76c51a3, 0xd192e819, 0xd6990624, 0xf40e3585, 0x106aa070,
  0x19a4c116, 0x1e376c08, 0x2748774c, 0x34b0bcb5, 0x391c0cb3, 0x4ed8aa4a, 0x5b9cca4f, 0x682e6ff3,
  0x748f82ee, 0x78a5636f, 0x84c87814, 0x8cc70208, 0x90befffa, 0xa4506ceb, 0xbef9a3f7, 0xc67178f2]
def start : List W := [0x6a09e667, 0xbb67ae85, 0x3c6ef372, 0xa54ff53a, 0x510e527f, 0x9b05688c, 0x1f83d9ab, 0x5be0cd19]
def s0 (x : W) : W := x.rotateRight 7 ^^^ x.rotateRight 18 ^^^ x >>> 3
def s1 (x : W) : W := x.rotateRight 17 ^^^ x.rotateRight 19 ^^^ x >>> 10
def t0 (a : W) : W := a.rotateRight 2 ^^^ a.rotateRight 13 ^^^ a.rotateRight 22
def t1 (e : W) : W := e.rotateRight 6 ^^^ e.rotateRight 11 ^^^ e.rotateRight 25
def at_ (l : List W) (i : Nat) : W := l.getD i 0
def nextW (w : List W) : W := at_ w (w.length - 16) + s0 (at_ w (w.length - 15)) + at_ w (w.length - 7) + s1 (at_ w (w.length - 2))
def more : Nat → List W → List W
  | 0, w => w
  | n + 1, w => more n (w ++ [nextW w])
def word (b : List UInt8) : W := (b.take 4).foldl (fun n c => n <<< 8 ||| (c.toBitVec.setWidth 32)) 0
def words16 (b : List UInt8) : List W := (List.range 16).map fun i => word (b.drop (4 * i))
def words (b : List UInt8) : List W := more 48 (words16 b)
def rnd (v : List W) (k w : W) : List W :=
  let e := at_ v 4; let a := at_ v 0
  let t := at_ v 7 + k + w + t1 e + (e &&& at_ v 5 ^^^ ~~~e &&& at_ v 6)
  let u := t0 a + (a &&& at_ v 1 ^^^ a &&& at_ v 2 ^^^ at_ v 1 &&& at_ v 2)
  [t + u, a, at_ v 1, at_ v 2, at_ v 3 + t, e, at_ v 5, at_ v 6]
def rnds (w : List W) (v : List W) : Nat → List W
  | 0 => v
  | i + 1 => rnd (rnds w v i) (at_ rounds i) (at_ w i)
def mix (h : List W) (b : List UInt8) : List W := List.zipWith (· + ·) h (rnds (words b) h 64)
def mixes : Nat → List W → List UInt8 → List W
  | 0, h, _ => h
  | n + 1, h, b => mixes n (mix h (b.take 64)) (b.drop 64)
def be4 (x : W) : List UInt8 := [⟨(x >>> 24).setWidth 8⟩, ⟨(x >>> 16).setWidth 8⟩, ⟨(x >>> 8).setWidth 8⟩, ⟨x.setWidth 8⟩]
def be8 (n : Nat) : List UInt8 := (List.range 8).map fun i => UInt8.ofNat (n / 256 ^ (7 - i))
def fill (n : Nat) : Nat := (119 - n % 64) % 64
def padded (s : List UInt8) : List UInt8 := s ++ 128 :: (List.replicate (fill s.length) 0 ++ be8 (8 * s.length))
def sum (s : List UInt8) : List UInt8 := (mixes ((padded s).length / 64) start (padded s)).flatMap be4
end Go.Sb.Sha
end
section
namespace Go.Sb
structure Hd where
  at_ : List Int
  sums : List Nat
  sum : B
  deriving Inhabited
def num (x : Int) (k : Nat) : B := beB (u64 x) k k
def crcN (b : B) : Nat := (Crc.crc b).toNat
def sealB (b : B) : B := padTo 60 b ++ beB (crcN (padTo 60 b)) 4 4
def hdBytes (x : Hd) : B := sealB ([69] ++ x.at_.flatMap (num · 2) ++ x.sums.flatMap (fun s => beB s 4 4) ++ x.sum)
def openB (s : B) : Out B :=
  if s.length < 60 then .err 2 else if s.length < 64 then .err 2 else
  if be ((s.drop 60).take 4) ≠ crcN (s.take 60) then .err 11 else if s.length ≠ 64 then .err 1 else .ok (s.take 60)
def nums (k : Nat) : Nat → B → List Nat
  | 0, _ => []
  | n + 1, l => be (l.take k) :: nums k n (l.drop k)
def hdParse (s : B) : Out Hd := match openB s with
  | .err e => .err e
  | .big => .big
  | .ok t => if t.take 1 ≠ [69] then .err 1 else
    if allZero (t.drop 57) = false then .err 1 else
    .ok { at_ := (nums 2 4 (t.drop 1)).map Int.ofNat, sums := nums 4 4 (t.drop 9), sum := (t.drop 25).take 32 }
def lift {α : Type} (o : Out α) : M α := fun s => (o, s)
def part (data : B) (k : Nat) : B := (data.drop (64 * k)).take 64
def xhead (at_ : Int) : M Hd := andThen (hget at_) fun b => lift (hdParse b)
def xparts (x : Hd) : Nat → M B
  | 0 => ret []
  | n + 1 => let k := 4 - (n + 1); let i := x.at_.getD k 0
    andThen (if 0 < i then andThen (hget i) fun s => if crcN s ≠ x.sums.getD k 0 then fail 11 else ret s else ret (zeros 64)) fun s =>
    andThen (xparts x n) fun r => ret (s ++ r)
def xget (at_ : Int) : M B := if at_ = 0 then ret (zeros 256) else andThen (xhead at_) fun x => xparts x 4
def xsum (at_ : Int) : M B := if at_ = 0 then ret (zeros 32) else andThen (xhead at_) fun x => ret x.sum
def xmore (at_ : Int) : M Unit := if at_ = 0 then ret () else hmore at_
def key (bits : Nat) (sum : B) : B := headBits bits sum
def xputs (data : B) : Nat → M (List (Int × Nat))
  | 0 => ret []
  | n + 1 => let s := part data (4 - (n + 1))
    andThen (if allZero s then ret (0, 0) else andThen (hput s) fun a => ret (a, crcN s)) fun p =>
    andThen (xputs data n) fun r => ret (p :: r)
def xput (data : B) : M Int :=
  if data.length ≠ 256 then fail 4 else if allZero data then ret 0 else fun s =>
  match mget (key s.bits (Sha.sum data)) s.index with
  | some a => andThen (xget a) (fun was => if was ≠ data then fail 9 else andThen (hmore a) fun _ => ret a) s
  | none => andThen (xputs data 4) (fun ps =>
      andThen (hput (hdBytes { at_ := ps.map (·.1), sums := ps.map (·.2), sum := Sha.sum data })) fun a =>
      andThen (fun s => putIndex (key s.bits (Sha.sum data)) a s) fun _ => ret a) s
def lessPos (i : Int) : M Unit := if 0 < i then andThen (hless i) fun _ => ret () else ret ()
def xless (at_ : Int) : M Unit := if at_ = 0 then ret () else
  andThen (xhead at_) fun x => andThen (hless at_) fun b => if b then andThen (each lessPos x.at_) fun _ s => dropIndex (key s.bits x.sum) s else ret ()
structure Nd where
  kids : List Int
  sum : B
  deriving Inhabited
def ndBytes (level : Nat) (n : Nd) : B := sealB ([78] ++ num level 1 ++ n.kids.flatMap (num · 2) ++ n.sum)
def ndParse (level : Nat) (s : B) : Out Nd := match openB s with
  | .err e => .err e
  | .big => .big
  | .ok t => if t.take 1 ≠ [78] then .err 1 else if be ((t.drop 1).take 1) ≠ level then .err 1 else
    if allZero (t.drop 50) = false then .err 1 else
    .ok { kids := (nums 2 8 (t.drop 2)).map Int.ofNat, sum := (t.drop 18).take 32 }
def digest (level : Nat) (sums : List B) : B := if sums.all (· == zeros 32) then zeros 32 else Sha.sum ([78, UInt8.ofNat level] ++ sums.flatten)
def none8 : List Int := [0, 0, 0, 0, 0, 0, 0, 0]
def load (at_ : Int) (level : Nat) : M Nd := if at_ = 0 then ret { kids := none8, sum := zeros 32 } else andThen (hget at_) fun b => lift (ndParse level b)
def rmore (at_ : Int) (level : Nat) : M Unit := if at_ = 0 then ret () else if level = 0 then xmore at_ else hmore at_
def rless : Nat → Int → M Unit
  | 0, a => xless a
  | l + 1, a => if a = 0 then ret () else andThen (load a l) fun n => andThen (hless a) fun b => if b then each (rless l) n.kids else ret ()
def rdrop (a : Int) (level : Nat) : M Unit := rless (level + 1) a
def rsums (level : Nat) : List Int → M (List B)
  | [] => ret []
  | k :: l => andThen (match level with | 0 => xsum k | n + 1 => andThen (load k n) fun x => ret x.sum) fun s => andThen (rsums level l) fun r => ret (s :: r)
def slot (level : Nat) (at_ : Nat) : Nat × Nat := (at_ / 8 ^ level % 8, at_ % 8 ^ level)
def rset : Nat → Int → Nat → Int → M Int
  | level, root, at_, to_ =>
    andThen (load root level) fun n => andThen (each (rmore · level) n.kids) fun _ => andThen (rdrop root level) fun _ =>
    andThen (match level with
      | 0 => andThen (xless (n.kids.getD (slot level at_).1 0)) fun _ => ret to_
      | l + 1 => rset l (n.kids.getD (slot level at_).1 0) (slot level at_).2 to_) fun r =>
    let kids := n.kids.set (slot level at_).1 r
    if kids = none8 then ret 0 else andThen (rsums level kids) fun ss => hput (ndBytes level { kids := kids, sum := digest level ss })
def rget : Nat → Int → Nat → M Int
  | 0, root, at_ => andThen (load root 0) fun n => ret (n.kids.getD (slot 0 at_).1 0)
  | l + 1, root, at_ => andThen (load root (l + 1)) fun n => rget l (n.kids.getD (slot (l + 1) at_).1 0) (slot (l + 1) at_).2
def mset (root : Int) (at_ : Nat) (to_ : Int) : M Int := andThen (rget 2 root at_) fun x => if x = to_ then andThen (xless to_) fun _ => ret root else rset 2 root at_ to_
def find (id : Int) : M Ent := fun s => match mget id s.vols with | some x => (.ok x, s) | none => (.err 5, s)
def copen (id : Int) : M Ent := andThen (find id) fun x => if x.only then fail 7 else ret x
def cput (x : Ent) : M Unit := putVols x.id x
def within (x : Ent) (at_ n : Int) : M Unit := if at_ < 0 ∨ n < 0 ∨ x.size < at_ ∨ x.size - at_ < n then fail 6 else ret ()
def wrap32 (x : Int) : Int := x % 4294967296
def cadd (x : Ent) : M Int := fun s =>
  let y := { x with id := s.next, born := s.epoch }
  andThen (setNext (wrap32 (s.next + 1))) (fun _ => andThen (cput y) fun _ => ret y.id) s
def cget (x : Ent) (i : Nat) : M B := andThen (rget 2 x.root i) xget
def cset (x : Ent) (i : Nat) (data : B) : M Ent := andThen (xput data) fun a => andThen (mset x.root i a) fun r => ret { x with root := r }
def patch : Nat → Ent → Nat → B → M Ent
  | 0, x, _, _ => ret x
  | k + 1, x, at_, data => if data = [] then ret x else
    let i := at_ / 4; let f := at_ % 4 * 64; let n := min data.length (256 - f)
    andThen (cget x i) fun was => andThen (cset x i (was.take f ++ data.take n ++ was.drop (f + n))) fun x => patch k x (at_ + n / 64) (data.drop n)
def patchD (x : Ent) (at_ : Nat) (data : B) : M Ent := patch data.length x at_ data
end Go.Sb
end
section
namespace Go.Sb
def also {C α : Type} (m : M α) (f : α → C → C) : Run (St × C) Unit := fun (s, c) => match m s with
  | (.ok a, s) => (.ok (), (s, f a c))
  | (.err e, s) => (.err e, (s, c))
  | (.big, s) => (.big, (s, c))
def ahead (more : Nat) : M Unit := fun s =>
  let room : Int := 2 * (s.vols.length + more : Nat)
  andThen (hkeep room) (fun _ s => if 0 < more ∧ (freeN s : Int) < room then (.err 8, s) else (.ok (), s)) s
def call (more : Nat) (run : M Unit) : M Int := fun s => match tryR (C := Unit) (also (andThen (ahead more) fun _ => run) fun _ c => c) (s, ()) with
  | (o, (s, _)) => (o, s)
def ent0 : Ent := { id := 0, parent := 0, only := false, size := 0, root := 0, born := 0 }
def creads : Nat → Ent → Nat → Nat → M B
  | 0, _, _, _ => ret []
  | k + 1, x, at_, n => if n = 0 then ret [] else
    let f := at_ % 4; let m := min n (4 - f)
    andThen (cget x (at_ / 4)) fun b => andThen (creads k x (at_ + m) (n - m)) fun r => ret ((b.drop (f * 64)).take (m * 64) ++ r)
def cnew (d : Dk) (fr bits : Nat) (next : Int) : St := { d := d, fr := fr, g := List.replicate (d.l.length - fr) 0, refs := [], young := [], gone := [], keep := 0, log := [], depth := 0, bits := min (max bits 1) 256, index := [], vols := [], next := max next 1, epoch := 1 }
end Go.Sb
end
