/- Part of the proof; no statement of its own: G2. -/
import Derived.Test.YtofffddcbjkdcaaG1
set_option linter.all false
namespace Go.Proofs.Ytofffddcbjkdcaa
open Go.Sl
theorem gnew_spec (fr n : Nat) (to : Int) (hto : to = fr + n) (hfr : fr ≤ 5000) (hn : n ≤ 5000) :
    Does Try.prog 17 #[.int .i64 fr, .int .i64 to] [] (GivesE (fun _ : Nat × Nat => True) (fun x => .pointer (some ⟨x.1, 0, none⟩)) (fun x => gm x.1 x.2 fr (List.replicate n 0))) := by
  refine does_enter Try.func17 rfl Try.ntmps17 rfl (fun R w0 => ?_)
  simp only [envOf, List.cons_append, List.nil_append]
  have hn0 : to - (fr : Int) = n := by omega
  have hmx : max (to - (fr : Int)) 0 = n := by omega
  refine cw_seq ?_
  refine cw_region ?_
  refine ow_y (y_assign rfl) ?_
  refine ow_nil ?_
  refine kw_code (fun _ _ h => h) ?_
  refine cw_seq ?_
  refine cw_region ?_
  refine ow_y (y_move rfl) ?_
  refine ow_y (y_move rfl) ?_
  refine ow_y (y_move rfl) ?_
  refine ow_y (y_subI rfl rfl (by omega)) ?_
  refine ow_y (y_max rfl rfl) ?_
  refine (ow_makeSlice1 (n := n) F.sl35 F.tb3 F.z3 rfl rfl rfl (by omega) (by omega) (by omega) (by omega) (fun b11 => ?_))
  refine ow_y (y_build F.pl64 rfl (by simp [fillL, nth, Value.cells] <;> rfl)) ?_
  refine (ow_box rfl (fun b13 => ?_))
  refine ow_y (y_assign rfl) ?_
  refine ow_nil ?_
  refine kw_code (fun _ _ h => h) ?_
  refine cw_seq ?_
  refine cw_tail 8 F.fol (by kernel_rfl) ?_
  simp only [List.take_succ_cons, List.take_zero, List.drop_succ_cons, List.drop_zero]
  refine os_y (y_move rfl) ?_
  refine os_y (y_move rfl) ?_
  refine os_y (y_nil rfl) ?_
  refine os_y (y_fld F.fld64_1 rfl) ?_
  refine os_y (y_load F.sc35 rfl (by rfl)) ?_
  refine os_y (y_len_slice F.sl35 rfl) ?_
  refine os_y (y_nil rfl) ?_
  refine os_y (y_fld F.fld64_2 rfl) ?_
  refine os_nil ?_
  refine ow_y (y_ixa F.ar62 rfl rfl (by omega)) ?_
  refine (ow_store F.sz3 rfl rfl rfl (by rfl) (by (try simp only [List.set_cons_zero, List.set_cons_succ, Nat.reduceAdd, Nat.reduceMul, Int.reduceToNat, Nat.zero_add, Nat.add_zero]); rfl) ?_)
  refine ow_nil ?_
  refine kw_code (fun _ _ h => h) ?_
  refine cw_seq ?_
  refine cw_region ?_
  refine ow_y (y_move rfl) ?_
  refine ow_y (y_assign rfl) ?_
  refine ow_nil ?_
  refine kw_code (fun _ _ h => h) ?_
  have hc0 : (List.replicate n 0).count 0 = n := List.count_replicate_self
  have hc1 : (List.replicate n 0).count 1 = 0 := by rw [List.count_replicate]; simp
  have hc2 : (List.replicate n 0).count 2 = 0 := by rw [List.count_replicate]; simp
  refine cw_eqL (L' := gm b13 b11 fr (List.replicate n 0) ++ [R]) (by simp [gm, gcells, hc0, hc1, hc2, gst]) ?_
  refine cw_retE (b13, b11) trivial (fun _ _ h => h) rfl rfl (by repeat (first | exact Split.nil | apply Split.cons (by repeat (first | exact Fnd.here | apply Fnd.there))))

theorem beq_int (a b : Nat) : ((a : Int) == (b : Int)) = decide (a = b) := by
  rw [show ((a : Int) == (b : Int)) = decide ((a : Int) = b) from rfl]
  exact decide_eq_decide.2 (by omega)

def isB (fr : Nat) (l : List Nat) (at_ : Int) (what : Nat) : Bool := decide (at_ ≥ fr) && (decide (at_ - fr < l.length) && decide (l[(at_ - fr).toNat]? = some what))
theorem isB_yes {fr i what : Nat} {l : List Nat} {at_ : Int} (h : at_ = fr + i) (hs : l[i]? = some what) : isB fr l at_ what = true := by
  have hi : i < l.length := by
    rcases Nat.lt_or_ge i l.length with h | h
    · exact h
    · rw [List.getElem?_eq_none h] at hs; cases hs
  have : (at_ - (fr : Int)).toNat = i := by omega
  simp only [isB, this, hs, Bool.and_eq_true, decide_eq_true_eq]
  exact ⟨by omega, by omega, trivial⟩
theorem gis_spec (b bl fr what : Nat) (l : List Nat) (at_ : Int) (ha : -9223372036854775808 ≤ at_ ∧ at_ ≤ 9223372036854775807) (hfr : fr ≤ 5000) (hl : l.length ≤ 5000) :
    Does Try.prog 37 #[.pointer (some ⟨b, 0, none⟩), .int .i64 at_, .int .i64 what] (gm b bl fr l) (Gives (.bool (isB fr l at_ what)) (gm b bl fr l)) := by
  by_cases h1 : at_ ≥ fr
  · by_cases h2 : at_ - fr < l.length
    · have hlt : (at_ - (fr : Int)).toNat < l.length := by omega
      have hs : l[(at_ - (fr : Int)).toNat]? = some l[(at_ - (fr : Int)).toNat] := List.getElem?_eq_getElem hlt
      refine does_enter Try.func37 rfl Try.ntmps37 rfl (fun R w0 => ?_)
      simp only [envOf, List.cons_append, List.nil_append, gm, gcells]
      refine cw_seq ?_
      refine cw_region ?_
      refine ow_y (y_assign rfl) ?_
      refine ow_nil ?_
      refine kw_code (fun _ _ h => h) ?_
      refine cw_seq ?_
      refine cw_soft F.fol (by kernel_rfl) ?_
      refine os_y (y_move rfl) ?_
      refine os_y (y_move rfl) ?_
      refine os_y (y_nil rfl) ?_
      refine os_y (y_fld F.fld64_0 rfl) ?_
      refine os_y (y_load F.sc3 rfl (by rfl)) ?_
      refine os_y (y_geq rfl rfl) ?_
      refine os_y (y_move rfl) ?_
      refine os_yg (fun a w hh => (want_of rfl rfl rfl hh).trans (wTT (by first | rfl | exact decide_eq_true (by omega)))) (y_move rfl) ?_
      refine os_yg (fun a w hh => (want_of rfl rfl rfl hh).trans (wTT (by first | rfl | exact decide_eq_true (by omega)))) (y_move rfl) ?_
      refine os_yg (fun a w hh => (want_of rfl rfl rfl hh).trans (wTT (by first | rfl | exact decide_eq_true (by omega)))) (y_nil rfl) ?_
      refine os_yg (fun a w hh => (want_of rfl rfl rfl hh).trans (wTT (by first | rfl | exact decide_eq_true (by omega)))) (y_fld F.fld64_0 rfl) ?_
      refine os_yg (fun a w hh => (want_of rfl rfl rfl hh).trans (wTT (by first | rfl | exact decide_eq_true (by omega)))) (y_load F.sc3 rfl (by rfl)) ?_
      refine os_yg (fun a w hh => (want_of rfl rfl rfl hh).trans (wTT (by first | rfl | exact decide_eq_true (by omega)))) (y_subI rfl rfl (by omega)) ?_
      refine os_yg (fun a w hh => (want_of rfl rfl rfl hh).trans (wTT (by first | rfl | exact decide_eq_true (by omega)))) (y_move rfl) ?_
      refine os_yg (fun a w hh => (want_of rfl rfl rfl hh).trans (wTT (by first | rfl | exact decide_eq_true (by omega)))) (y_nil rfl) ?_
      refine os_yg (fun a w hh => (want_of rfl rfl rfl hh).trans (wTT (by first | rfl | exact decide_eq_true (by omega)))) (y_fld F.fld64_1 rfl) ?_
      refine os_yg (fun a w hh => (want_of rfl rfl rfl hh).trans (wTT (by first | rfl | exact decide_eq_true (by omega)))) (y_load F.sc35 rfl (by rfl)) ?_
      refine os_yg (fun a w hh => (want_of rfl rfl rfl hh).trans (wTT (by first | rfl | exact decide_eq_true (by omega)))) (y_len_slice F.sl35 rfl) ?_
      refine os_yg (fun a w hh => (want_of rfl rfl rfl hh).trans (wTT (by first | rfl | exact decide_eq_true (by omega)))) (y_lss rfl rfl) ?_
      refine os_y (y_pickT rfl (by first | rfl | exact decide_eq_true (by omega)) rfl) ?_
      refine os_y (y_move rfl) ?_
      refine os_yg (fun a w hh => (want_of rfl rfl rfl hh).trans (wTT (by first | rfl | exact decide_eq_true (by omega)))) (y_move rfl) ?_
      refine os_yg (fun a w hh => (want_of rfl rfl rfl hh).trans (wTT (by first | rfl | exact decide_eq_true (by omega)))) (y_nil rfl) ?_
      refine os_yg (fun a w hh => (want_of rfl rfl rfl hh).trans (wTT (by first | rfl | exact decide_eq_true (by omega)))) (y_fld F.fld64_1 rfl) ?_
      refine os_yg (fun a w hh => (want_of rfl rfl rfl hh).trans (wTT (by first | rfl | exact decide_eq_true (by omega)))) (y_load F.sc35 rfl (by rfl)) ?_
      refine os_yg (fun a w hh => (want_of rfl rfl rfl hh).trans (wTT (by first | rfl | exact decide_eq_true (by omega)))) (y_move rfl) ?_
      refine os_yg (fun a w hh => (want_of rfl rfl rfl hh).trans (wTT (by first | rfl | exact decide_eq_true (by omega)))) (y_move rfl) ?_
      refine os_yg (fun a w hh => (want_of rfl rfl rfl hh).trans (wTT (by first | rfl | exact decide_eq_true (by omega)))) (y_nil rfl) ?_
      refine os_yg (fun a w hh => (want_of rfl rfl rfl hh).trans (wTT (by first | rfl | exact decide_eq_true (by omega)))) (y_fld F.fld64_0 rfl) ?_
      refine os_yg (fun a w hh => (want_of rfl rfl rfl hh).trans (wTT (by first | rfl | exact decide_eq_true (by omega)))) (y_load F.sc3 rfl (by rfl)) ?_
      refine os_yg (fun a w hh => (want_of rfl rfl rfl hh).trans (wTT (by first | rfl | exact decide_eq_true (by omega)))) (y_subI rfl rfl (by omega)) ?_
      refine os_yg (fun a w hh => (want_of rfl rfl rfl hh).trans (wTT (by first | rfl | exact decide_eq_true (by omega)))) (y_ixs F.sl35 rfl rfl (by omega)) ?_
      refine os_yg (fun a w hh => (want_of rfl rfl rfl hh).trans (wTT (by first | rfl | exact decide_eq_true (by omega)))) (y_load F.sc3 rfl (gst_at hs (by omega))) ?_
      refine os_yg (fun a w hh => (want_of rfl rfl rfl hh).trans (wTT (by first | rfl | exact decide_eq_true (by omega)))) (y_move rfl) ?_
      refine os_yg (fun a w hh => (want_of rfl rfl rfl hh).trans (wTT (by first | rfl | exact decide_eq_true (by omega)))) (y_eql rfl rfl) ?_
      refine os_y (y_pickT rfl (by first | rfl | exact decide_eq_true (by omega)) rfl) ?_
      refine os_y (y_assign rfl) ?_
      refine os_nil ?_
      refine kw_code (fun _ _ h => h) ?_
      refine cw_retG (fun _ _ h => h) rfl (by simp only [isB, h1, h2, decide_true, Bool.true_and, hs, Option.some.injEq]; rw [beq_int]) (by repeat (first | exact Split.nil | apply Split.cons (by repeat (first | exact Fnd.here | apply Fnd.there))))
    · skip
      refine does_enter Try.func37 rfl Try.ntmps37 rfl (fun R w0 => ?_)
      simp only [envOf, List.cons_append, List.nil_append, gm, gcells]
      refine cw_seq ?_
      refine cw_region ?_
      refine ow_y (y_assign rfl) ?_
      refine ow_nil ?_
      refine kw_code (fun _ _ h => h) ?_
      refine cw_seq ?_
      refine cw_soft F.fol (by kernel_rfl) ?_
      refine os_y (y_move rfl) ?_
      refine os_y (y_move rfl) ?_
      refine os_y (y_nil rfl) ?_
      refine os_y (y_fld F.fld64_0 rfl) ?_
      refine os_y (y_load F.sc3 rfl (by rfl)) ?_
      refine os_y (y_geq rfl rfl) ?_
      refine os_y (y_move rfl) ?_
      refine os_yg (fun a w hh => (want_of rfl rfl rfl hh).trans (wTT (by first | rfl | exact decide_eq_true (by omega)))) (y_move rfl) ?_
      refine os_yg (fun a w hh => (want_of rfl rfl rfl hh).trans (wTT (by first | rfl | exact decide_eq_true (by omega)))) (y_move rfl) ?_
      refine os_yg (fun a w hh => (want_of rfl rfl rfl hh).trans (wTT (by first | rfl | exact decide_eq_true (by omega)))) (y_nil rfl) ?_
      refine os_yg (fun a w hh => (want_of rfl rfl rfl hh).trans (wTT (by first | rfl | exact decide_eq_true (by omega)))) (y_fld F.fld64_0 rfl) ?_
      refine os_yg (fun a w hh => (want_of rfl rfl rfl hh).trans (wTT (by first | rfl | exact decide_eq_true (by omega)))) (y_load F.sc3 rfl (by rfl)) ?_
      refine os_yg (fun a w hh => (want_of rfl rfl rfl hh).trans (wTT (by first | rfl | exact decide_eq_true (by omega)))) (y_subI rfl rfl (by omega)) ?_
      refine os_yg (fun a w hh => (want_of rfl rfl rfl hh).trans (wTT (by first | rfl | exact decide_eq_true (by omega)))) (y_move rfl) ?_
      refine os_yg (fun a w hh => (want_of rfl rfl rfl hh).trans (wTT (by first | rfl | exact decide_eq_true (by omega)))) (y_nil rfl) ?_
      refine os_yg (fun a w hh => (want_of rfl rfl rfl hh).trans (wTT (by first | rfl | exact decide_eq_true (by omega)))) (y_fld F.fld64_1 rfl) ?_
      refine os_yg (fun a w hh => (want_of rfl rfl rfl hh).trans (wTT (by first | rfl | exact decide_eq_true (by omega)))) (y_load F.sc35 rfl (by rfl)) ?_
      refine os_yg (fun a w hh => (want_of rfl rfl rfl hh).trans (wTT (by first | rfl | exact decide_eq_true (by omega)))) (y_len_slice F.sl35 rfl) ?_
      refine os_yg (fun a w hh => (want_of rfl rfl rfl hh).trans (wTT (by first | rfl | exact decide_eq_true (by omega)))) (y_lss rfl rfl) ?_
      refine os_y (y_pickT rfl (by first | rfl | exact decide_eq_true (by omega)) rfl) ?_
      refine os_y (y_move rfl) ?_
      refine os_skip (fun a w hh => (want_of rfl rfl rfl hh).trans (wTF (by first | rfl | exact decide_eq_false (by omega)))) rfl ?_
      refine os_skip (fun a w hh => (want_of rfl rfl rfl hh).trans (wTF (by first | rfl | exact decide_eq_false (by omega)))) rfl ?_
      refine os_skip (fun a w hh => (want_of rfl rfl rfl hh).trans (wTF (by first | rfl | exact decide_eq_false (by omega)))) rfl ?_
      refine os_skip (fun a w hh => (want_of rfl rfl rfl hh).trans (wTF (by first | rfl | exact decide_eq_false (by omega)))) rfl ?_
      refine os_skip (fun a w hh => (want_of rfl rfl rfl hh).trans (wTF (by first | rfl | exact decide_eq_false (by omega)))) rfl ?_
      refine os_skip (fun a w hh => (want_of rfl rfl rfl hh).trans (wTF (by first | rfl | exact decide_eq_false (by omega)))) rfl ?_
      refine os_skip (fun a w hh => (want_of rfl rfl rfl hh).trans (wTF (by first | rfl | exact decide_eq_false (by omega)))) rfl ?_
      refine os_skip (fun a w hh => (want_of rfl rfl rfl hh).trans (wTF (by first | rfl | exact decide_eq_false (by omega)))) rfl ?_
      refine os_skip (fun a w hh => (want_of rfl rfl rfl hh).trans (wTF (by first | rfl | exact decide_eq_false (by omega)))) rfl ?_
      refine os_skip (fun a w hh => (want_of rfl rfl rfl hh).trans (wTF (by first | rfl | exact decide_eq_false (by omega)))) rfl ?_
      refine os_skip (fun a w hh => (want_of rfl rfl rfl hh).trans (wTF (by first | rfl | exact decide_eq_false (by omega)))) rfl ?_
      refine os_skip (fun a w hh => (want_of rfl rfl rfl hh).trans (wTF (by first | rfl | exact decide_eq_false (by omega)))) rfl ?_
      refine os_skip (fun a w hh => (want_of rfl rfl rfl hh).trans (wTF (by first | rfl | exact decide_eq_false (by omega)))) rfl ?_
      refine os_skip (fun a w hh => (want_of rfl rfl rfl hh).trans (wTF (by first | rfl | exact decide_eq_false (by omega)))) rfl ?_
      refine os_y (y_pickF rfl (by first | rfl | exact decide_eq_false (by omega)) rfl) ?_
      refine os_y (y_assign rfl) ?_
      refine os_nil ?_
      refine kw_code (fun _ _ h => h) ?_
      refine cw_retG (fun _ _ h => h) rfl (by simp [isB, h2]) (by repeat (first | exact Split.nil | apply Split.cons (by repeat (first | exact Fnd.here | apply Fnd.there))))
  · skip
    refine does_enter Try.func37 rfl Try.ntmps37 rfl (fun R w0 => ?_)
    simp only [envOf, List.cons_append, List.nil_append, gm, gcells]
    refine cw_seq ?_
    refine cw_region ?_
    refine ow_y (y_assign rfl) ?_
    refine ow_nil ?_
    refine kw_code (fun _ _ h => h) ?_
    refine cw_seq ?_
    refine cw_soft F.fol (by kernel_rfl) ?_
    refine os_y (y_move rfl) ?_
    refine os_y (y_move rfl) ?_
    refine os_y (y_nil rfl) ?_
    refine os_y (y_fld F.fld64_0 rfl) ?_
    refine os_y (y_load F.sc3 rfl (by rfl)) ?_
    refine os_y (y_geq rfl rfl) ?_
    refine os_y (y_move rfl) ?_
    refine os_skip (fun a w hh => (want_of rfl rfl rfl hh).trans (wTF (by first | rfl | exact decide_eq_false (by omega)))) rfl ?_
    refine os_skip (fun a w hh => (want_of rfl rfl rfl hh).trans (wTF (by first | rfl | exact decide_eq_false (by omega)))) rfl ?_
    refine os_skip (fun a w hh => (want_of rfl rfl rfl hh).trans (wTF (by first | rfl | exact decide_eq_false (by omega)))) rfl ?_
    refine os_skip (fun a w hh => (want_of rfl rfl rfl hh).trans (wTF (by first | rfl | exact decide_eq_false (by omega)))) rfl ?_
    refine os_skip (fun a w hh => (want_of rfl rfl rfl hh).trans (wTF (by first | rfl | exact decide_eq_false (by omega)))) rfl ?_
    refine os_skip (fun a w hh => (want_of rfl rfl rfl hh).trans (wTF (by first | rfl | exact decide_eq_false (by omega)))) rfl ?_
    refine os_skip (fun a w hh => (want_of rfl rfl rfl hh).trans (wTF (by first | rfl | exact decide_eq_false (by omega)))) rfl ?_
    refine os_skip (fun a w hh => (want_of rfl rfl rfl hh).trans (wTF (by first | rfl | exact decide_eq_false (by omega)))) rfl ?_
    refine os_skip (fun a w hh => (want_of rfl rfl rfl hh).trans (wTF (by first | rfl | exact decide_eq_false (by omega)))) rfl ?_
    refine os_skip (fun a w hh => (want_of rfl rfl rfl hh).trans (wTF (by first | rfl | exact decide_eq_false (by omega)))) rfl ?_
    refine os_skip (fun a w hh => (want_of rfl rfl rfl hh).trans (wTF (by first | rfl | exact decide_eq_false (by omega)))) rfl ?_
    refine os_skip (fun a w hh => (want_of rfl rfl rfl hh).trans (wTF (by first | rfl | exact decide_eq_false (by omega)))) rfl ?_
    refine os_y (y_pickF rfl (by first | rfl | exact decide_eq_false (by omega)) rfl) ?_
    refine os_y (y_move rfl) ?_
    refine os_skip (fun a w hh => (want_of rfl rfl rfl hh).trans (wTF (by first | rfl | exact decide_eq_false (by omega)))) rfl ?_
    refine os_skip (fun a w hh => (want_of rfl rfl rfl hh).trans (wTF (by first | rfl | exact decide_eq_false (by omega)))) rfl ?_
    refine os_skip (fun a w hh => (want_of rfl rfl rfl hh).trans (wTF (by first | rfl | exact decide_eq_false (by omega)))) rfl ?_
    refine os_skip (fun a w hh => (want_of rfl rfl rfl hh).trans (wTF (by first | rfl | exact decide_eq_false (by omega)))) rfl ?_
    refine os_skip (fun a w hh => (want_of rfl rfl rfl hh).trans (wTF (by first | rfl | exact decide_eq_false (by omega)))) rfl ?_
    refine os_skip (fun a w hh => (want_of rfl rfl rfl hh).trans (wTF (by first | rfl | exact decide_eq_false (by omega)))) rfl ?_
    refine os_skip (fun a w hh => (want_of rfl rfl rfl hh).trans (wTF (by first | rfl | exact decide_eq_false (by omega)))) rfl ?_
    refine os_skip (fun a w hh => (want_of rfl rfl rfl hh).trans (wTF (by first | rfl | exact decide_eq_false (by omega)))) rfl ?_
    refine os_skip (fun a w hh => (want_of rfl rfl rfl hh).trans (wTF (by first | rfl | exact decide_eq_false (by omega)))) rfl ?_
    refine os_skip (fun a w hh => (want_of rfl rfl rfl hh).trans (wTF (by first | rfl | exact decide_eq_false (by omega)))) rfl ?_
    refine os_skip (fun a w hh => (want_of rfl rfl rfl hh).trans (wTF (by first | rfl | exact decide_eq_false (by omega)))) rfl ?_
    refine os_skip (fun a w hh => (want_of rfl rfl rfl hh).trans (wTF (by first | rfl | exact decide_eq_false (by omega)))) rfl ?_
    refine os_skip (fun a w hh => (want_of rfl rfl rfl hh).trans (wTF (by first | rfl | exact decide_eq_false (by omega)))) rfl ?_
    refine os_skip (fun a w hh => (want_of rfl rfl rfl hh).trans (wTF (by first | rfl | exact decide_eq_false (by omega)))) rfl ?_
    refine os_y (y_pickF rfl (by first | rfl | exact decide_eq_false (by omega)) rfl) ?_
    refine os_y (y_assign rfl) ?_
    refine os_nil ?_
    refine kw_code (fun _ _ h => h) ?_
    refine cw_retG (fun _ _ h => h) rfl (by simp [isB, h1]) (by repeat (first | exact Split.nil | apply Split.cons (by repeat (first | exact Fnd.here | apply Fnd.there))))

def mvL (fr : Nat) (l : List Nat) (at_ : Int) (k to : Nat) : List Nat := match isB fr l at_ k with | true => l.set (at_ - fr).toNat to | false => l
theorem isB_at {fr : Nat} {l : List Nat} {at_ : Int} {k : Nat} (h : isB fr l at_ k = true) : ∃ i : Nat, at_ = fr + i ∧ l[i]? = some k := by
  simp only [isB, Bool.and_eq_true, decide_eq_true_eq] at h
  exact ⟨(at_ - fr).toNat, by omega, h.2.2⟩
theorem gmove_spec (b bl fr k to : Nat) (l : List Nat) (at_ : Int) (ha : -9223372036854775808 ≤ at_ ∧ at_ ≤ 9223372036854775807) (hk : k < 3) (ht : to < 3) (hfr : fr ≤ 5000) (hl : l.length ≤ 5000) :
    Does Try.prog 35 #[.pointer (some ⟨b, 0, none⟩), .int .i64 at_, .int .i64 k, .int .i64 to] (gm b bl fr l) (Gives (.bool (isB fr l at_ k)) (gm b bl fr (mvL fr l at_ k to))) := by
  cases hb : isB fr l at_ k with
  | true =>
    obtain ⟨i, hi, hs⟩ := isB_at hb
    have hti : (at_ - (fr : Int)).toNat = i := by omega
    have hset := gset_spec b bl fr i k to l at_ hi hs hk ht hfr hl
    simp only [mvL, hb, hti]
    refine does_enter Try.func35 rfl Try.ntmps35 rfl (fun R w0 => ?_)
    simp only [envOf, List.cons_append, List.nil_append]
    refine cw_seq ?_
    refine cw_region ?_
    refine ow_y (y_assign rfl) ?_
    refine ow_nil ?_
    refine kw_code (fun _ _ h => h) ?_
    refine cw_seq ?_
    refine cw_seq ?_
    refine cw_region ?_
    refine ow_y (y_move rfl) ?_
    refine ow_y (y_move rfl) ?_
    refine ow_y (y_move rfl) ?_
    refine ow_gives rfl F.hb37 rfl (gis_spec b bl fr k l at_ ha hfr hl) (by repeat (first | exact Split.nil | apply Split.cons (by repeat (first | exact Fnd.here | apply Fnd.there)))) ?_
    simp only [List.cons_append, List.nil_append]
    refine ow_y (y_not rfl) ?_
    refine ow_nil ?_
    refine kw_code (fun _ _ h => h) ?_
    refine cw_false rfl (by rw [hb]; rfl) ?_
    refine cw_skip ?_
    refine kw_code (fun _ _ h => h) ?_
    refine cw_seq ?_
    refine cw_region ?_
    refine ow_y (y_move rfl) ?_
    refine ow_y (y_move rfl) ?_
    refine ow_y (y_move rfl) ?_
    refine ow_gives rfl F.hb36 rfl (hset) (by repeat (first | exact Split.nil | apply Split.cons (by repeat (first | exact Fnd.here | apply Fnd.there)))) ?_
    simp only [List.cons_append, List.nil_append]
    refine ow_nil ?_
    refine kw_code (fun _ _ h => h) ?_
    refine cw_seq ?_
    refine cw_region ?_
    refine ow_y (y_assign rfl) ?_
    refine ow_nil ?_
    refine kw_code (fun _ _ h => h) ?_
    refine cw_retG (fun _ _ h => h) rfl rfl (by repeat (first | exact Split.nil | apply Split.cons (by repeat (first | exact Fnd.here | apply Fnd.there))))
  | false =>
    simp only [mvL, hb]
    refine does_enter Try.func35 rfl Try.ntmps35 rfl (fun R w0 => ?_)
    simp only [envOf, List.cons_append, List.nil_append]
    refine cw_seq ?_
    refine cw_region ?_
    refine ow_y (y_assign rfl) ?_
    refine ow_nil ?_
    refine kw_code (fun _ _ h => h) ?_
    refine cw_seq ?_
    refine cw_seq ?_
    refine cw_region ?_
    refine ow_y (y_move rfl) ?_
    refine ow_y (y_move rfl) ?_
    refine ow_y (y_move rfl) ?_
    refine ow_gives rfl F.hb37 rfl (gis_spec b bl fr k l at_ ha hfr hl) (by repeat (first | exact Split.nil | apply Split.cons (by repeat (first | exact Fnd.here | apply Fnd.there)))) ?_
    simp only [List.cons_append, List.nil_append]
    refine ow_y (y_not rfl) ?_
    refine ow_nil ?_
    refine kw_code (fun _ _ h => h) ?_
    refine cw_true rfl (by rw [hb]; rfl) ?_
    refine cw_seq ?_
    refine cw_region ?_
    refine ow_y (y_assign rfl) ?_
    refine ow_nil ?_
    refine kw_code (fun _ _ h => h) ?_
    refine cw_retG (fun _ _ h => h) rfl rfl (by repeat (first | exact Split.nil | apply Split.cons (by repeat (first | exact Fnd.here | apply Fnd.there))))

theorem ghold_spec (b bl fr : Nat) (l : List Nat) (at_ : Int) (ha : -9223372036854775808 ≤ at_ ∧ at_ ≤ 9223372036854775807) (hfr : fr ≤ 5000) (hl : l.length ≤ 5000) :
    Does Try.prog 18 #[.pointer (some ⟨b, 0, none⟩), .int .i64 at_] (gm b bl fr l) (Gives (.bool (isB fr l at_ 0)) (gm b bl fr (mvL fr l at_ 0 1))) := by
  refine does_enter Try.func18 rfl Try.ntmps18 rfl (fun R w0 => ?_)
  simp only [envOf, List.cons_append, List.nil_append]
  refine cw_seq ?_
  refine cw_region ?_
  refine ow_y (y_assign rfl) ?_
  refine ow_nil ?_
  refine kw_code (fun _ _ h => h) ?_
  refine cw_seq ?_
  refine cw_region ?_
  refine ow_y (y_move rfl) ?_
  refine ow_y (y_move rfl) ?_
  refine ow_gives rfl F.hb35 rfl (gmove_spec b bl fr 0 1 l at_ ha (by decide) (by decide) hfr hl) (by repeat (first | exact Split.nil | apply Split.cons (by repeat (first | exact Fnd.here | apply Fnd.there)))) ?_
  simp only [List.cons_append, List.nil_append]
  refine ow_y (y_assign rfl) ?_
  refine ow_nil ?_
  refine kw_code (fun _ _ h => h) ?_
  refine cw_retG (fun _ _ h => h) rfl rfl (by repeat (first | exact Split.nil | apply Split.cons (by repeat (first | exact Fnd.here | apply Fnd.there))))

theorem ggive_spec (b bl fr : Nat) (l : List Nat) (at_ : Int) (ha : -9223372036854775808 ≤ at_ ∧ at_ ≤ 9223372036854775807) (hfr : fr ≤ 5000) (hl : l.length ≤ 5000) :
    Does Try.prog 27 #[.pointer (some ⟨b, 0, none⟩), .int .i64 at_] (gm b bl fr l) (Gives (.bool (isB fr l at_ 1)) (gm b bl fr (mvL fr l at_ 1 0))) := by
  refine does_enter Try.func27 rfl Try.ntmps27 rfl (fun R w0 => ?_)
  simp only [envOf, List.cons_append, List.nil_append]
  refine cw_seq ?_
  refine cw_region ?_
  refine ow_y (y_assign rfl) ?_
  refine ow_nil ?_
  refine kw_code (fun _ _ h => h) ?_
  refine cw_seq ?_
  refine cw_region ?_
  refine ow_y (y_move rfl) ?_
  refine ow_y (y_move rfl) ?_
  refine ow_gives rfl F.hb35 rfl (gmove_spec b bl fr 1 0 l at_ ha (by decide) (by decide) hfr hl) (by repeat (first | exact Split.nil | apply Split.cons (by repeat (first | exact Fnd.here | apply Fnd.there)))) ?_
  simp only [List.cons_append, List.nil_append]
  refine ow_y (y_assign rfl) ?_
  refine ow_nil ?_
  refine kw_code (fun _ _ h => h) ?_
  refine cw_retG (fun _ _ h => h) rfl rfl (by repeat (first | exact Split.nil | apply Split.cons (by repeat (first | exact Fnd.here | apply Fnd.there))))

theorem glater_spec (b bl fr : Nat) (l : List Nat) (at_ : Int) (ha : -9223372036854775808 ≤ at_ ∧ at_ ≤ 9223372036854775807) (hfr : fr ≤ 5000) (hl : l.length ≤ 5000) :
    Does Try.prog 23 #[.pointer (some ⟨b, 0, none⟩), .int .i64 at_] (gm b bl fr l) (Gives (.bool (isB fr l at_ 1)) (gm b bl fr (mvL fr l at_ 1 2))) := by
  refine does_enter Try.func23 rfl Try.ntmps23 rfl (fun R w0 => ?_)
  simp only [envOf, List.cons_append, List.nil_append]
  refine cw_seq ?_
  refine cw_region ?_
  refine ow_y (y_assign rfl) ?_
  refine ow_nil ?_
  refine kw_code (fun _ _ h => h) ?_
  refine cw_seq ?_
  refine cw_region ?_
  refine ow_y (y_move rfl) ?_
  refine ow_y (y_move rfl) ?_
  refine ow_gives rfl F.hb35 rfl (gmove_spec b bl fr 1 2 l at_ ha (by decide) (by decide) hfr hl) (by repeat (first | exact Split.nil | apply Split.cons (by repeat (first | exact Fnd.here | apply Fnd.there)))) ?_
  simp only [List.cons_append, List.nil_append]
  refine ow_y (y_assign rfl) ?_
  refine ow_nil ?_
  refine kw_code (fun _ _ h => h) ?_
  refine cw_retG (fun _ _ h => h) rfl rfl (by repeat (first | exact Split.nil | apply Split.cons (by repeat (first | exact Fnd.here | apply Fnd.there))))

theorem gback_spec (b bl fr : Nat) (l : List Nat) (at_ : Int) (ha : -9223372036854775808 ≤ at_ ∧ at_ ≤ 9223372036854775807) (hfr : fr ≤ 5000) (hl : l.length ≤ 5000) :
    Does Try.prog 26 #[.pointer (some ⟨b, 0, none⟩), .int .i64 at_] (gm b bl fr l) (Gives (.bool (isB fr l at_ 2)) (gm b bl fr (mvL fr l at_ 2 1))) := by
  refine does_enter Try.func26 rfl Try.ntmps26 rfl (fun R w0 => ?_)
  simp only [envOf, List.cons_append, List.nil_append]
  refine cw_seq ?_
  refine cw_region ?_
  refine ow_y (y_assign rfl) ?_
  refine ow_nil ?_
  refine kw_code (fun _ _ h => h) ?_
  refine cw_seq ?_
  refine cw_region ?_
  refine ow_y (y_move rfl) ?_
  refine ow_y (y_move rfl) ?_
  refine ow_gives rfl F.hb35 rfl (gmove_spec b bl fr 2 1 l at_ ha (by decide) (by decide) hfr hl) (by repeat (first | exact Split.nil | apply Split.cons (by repeat (first | exact Fnd.here | apply Fnd.there)))) ?_
  simp only [List.cons_append, List.nil_append]
  refine ow_y (y_assign rfl) ?_
  refine ow_nil ?_
  refine kw_code (fun _ _ h => h) ?_
  refine cw_retG (fun _ _ h => h) rfl rfl (by repeat (first | exact Split.nil | apply Split.cons (by repeat (first | exact Fnd.here | apply Fnd.there))))

theorem gIs_spec (b bl fr : Nat) (l : List Nat) (at_ : Int) (ha : -9223372036854775808 ≤ at_ ∧ at_ ≤ 9223372036854775807) (hfr : fr ≤ 5000) (hl : l.length ≤ 5000) :
    Does Try.prog 24 #[.pointer (some ⟨b, 0, none⟩), .int .i64 at_] (gm b bl fr l) (Gives (.bool (isB fr l at_ 1)) (gm b bl fr l)) := by
  refine does_enter Try.func24 rfl Try.ntmps24 rfl (fun R w0 => ?_)
  simp only [envOf, List.cons_append, List.nil_append]
  refine cw_seq ?_
  refine cw_region ?_
  refine ow_y (y_assign rfl) ?_
  refine ow_nil ?_
  refine kw_code (fun _ _ h => h) ?_
  refine cw_seq ?_
  refine cw_region ?_
  refine ow_y (y_move rfl) ?_
  refine ow_y (y_move rfl) ?_
  refine ow_gives rfl F.hb37 rfl (gis_spec b bl fr 1 l at_ ha hfr hl) (by repeat (first | exact Split.nil | apply Split.cons (by repeat (first | exact Fnd.here | apply Fnd.there)))) ?_
  simp only [List.cons_append, List.nil_append]
  refine ow_y (y_assign rfl) ?_
  refine ow_nil ?_
  refine kw_code (fun _ _ h => h) ?_
  refine cw_retG (fun _ _ h => h) rfl rfl (by repeat (first | exact Split.nil | apply Split.cons (by repeat (first | exact Fnd.here | apply Fnd.there))))

theorem gFree_spec (b bl fr : Nat) (l : List Nat) :
    Does Try.prog 21 #[.pointer (some ⟨b, 0, none⟩)] (gm b bl fr l) (Gives (.int .i64 (l.count 0)) (gm b bl fr l)) := by
  refine does_enter Try.func21 rfl Try.ntmps21 rfl (fun R w0 => ?_)
  simp only [envOf, List.cons_append, List.nil_append, gm, gcells]
  refine cw_seq ?_
  refine cw_region ?_
  refine ow_y (y_assign rfl) ?_
  refine ow_nil ?_
  refine kw_code (fun _ _ h => h) ?_
  refine cw_seq ?_
  refine cw_region ?_
  refine ow_y (y_move rfl) ?_
  refine ow_y (y_nil rfl) ?_
  refine ow_y (y_fld F.fld64_2 rfl) ?_
  refine ow_y (y_ixa F.ar62 rfl rfl (by omega)) ?_
  refine ow_y (y_load F.sc3 rfl (by rfl)) ?_
  refine ow_y (y_assign rfl) ?_
  refine ow_nil ?_
  refine kw_code (fun _ _ h => h) ?_
  refine cw_retG (fun _ _ h => h) rfl rfl (by repeat (first | exact Split.nil | apply Split.cons (by repeat (first | exact Fnd.here | apply Fnd.there))))

theorem gHeld_spec (b bl fr : Nat) (l : List Nat) :
    Does Try.prog 20 #[.pointer (some ⟨b, 0, none⟩)] (gm b bl fr l) (Gives (.int .i64 (l.count 1)) (gm b bl fr l)) := by
  refine does_enter Try.func20 rfl Try.ntmps20 rfl (fun R w0 => ?_)
  simp only [envOf, List.cons_append, List.nil_append, gm, gcells]
  refine cw_seq ?_
  refine cw_region ?_
  refine ow_y (y_assign rfl) ?_
  refine ow_nil ?_
  refine kw_code (fun _ _ h => h) ?_
  refine cw_seq ?_
  refine cw_region ?_
  refine ow_y (y_move rfl) ?_
  refine ow_y (y_nil rfl) ?_
  refine ow_y (y_fld F.fld64_2 rfl) ?_
  refine ow_y (y_ixa F.ar62 rfl rfl (by omega)) ?_
  refine ow_y (y_load F.sc3 rfl (by rfl)) ?_
  refine ow_y (y_assign rfl) ?_
  refine ow_nil ?_
  refine kw_code (fun _ _ h => h) ?_
  refine cw_retG (fun _ _ h => h) rfl rfl (by repeat (first | exact Split.nil | apply Split.cons (by repeat (first | exact Fnd.here | apply Fnd.there))))

theorem gLate_spec (b bl fr : Nat) (l : List Nat) :
    Does Try.prog 25 #[.pointer (some ⟨b, 0, none⟩)] (gm b bl fr l) (Gives (.int .i64 (l.count 2)) (gm b bl fr l)) := by
  refine does_enter Try.func25 rfl Try.ntmps25 rfl (fun R w0 => ?_)
  simp only [envOf, List.cons_append, List.nil_append, gm, gcells]
  refine cw_seq ?_
  refine cw_region ?_
  refine ow_y (y_assign rfl) ?_
  refine ow_nil ?_
  refine kw_code (fun _ _ h => h) ?_
  refine cw_seq ?_
  refine cw_region ?_
  refine ow_y (y_move rfl) ?_
  refine ow_y (y_nil rfl) ?_
  refine ow_y (y_fld F.fld64_2 rfl) ?_
  refine ow_y (y_ixa F.ar62 rfl rfl (by omega)) ?_
  refine ow_y (y_load F.sc3 rfl (by rfl)) ?_
  refine ow_y (y_assign rfl) ?_
  refine ow_nil ?_
  refine kw_code (fun _ _ h => h) ?_
  refine cw_retG (fun _ _ h => h) rfl rfl (by repeat (first | exact Split.nil | apply Split.cons (by repeat (first | exact Fnd.here | apply Fnd.there))))

theorem gtake_spec (b bl fr : Nat) (l : List Nat) (hfr : fr ≤ 5000) (hl : l.length ≤ 5000) :
    Does Try.prog 19 #[.pointer (some ⟨b, 0, none⟩)] (gm b bl fr l)
      (Gives (match l.findIdx? (· == 0) with | some i => .tuple #[.int .i64 (fr + i), .bool true] | none => .tuple #[.int .i64 0, .bool false])
        (gm b bl fr (match l.findIdx? (· == 0) with | some i => l.set i 1 | none => l))) := by
  refine does_enter Try.func19 rfl Try.ntmps19 rfl (fun R w0 => ?_)
  simp only [envOf, List.cons_append, List.nil_append, gm, gcells]
  refine cw_seq ?_
  refine cw_region ?_
  refine ow_y (y_assign rfl) ?_
  refine ow_y (y_assign rfl) ?_
  refine ow_nil ?_
  refine kw_code (fun _ _ h => h) ?_
  refine cw_seq ?_
  refine cw_seq ?_
  refine cw_region ?_
  refine ow_y (y_move rfl) ?_
  refine ow_y (y_nil rfl) ?_
  refine ow_y (y_fld F.fld64_1 rfl) ?_
  refine ow_y (y_load F.sc35 rfl (by rfl)) ?_
  refine ow_y (y_len_slice F.sl35 rfl) ?_
  refine ow_y (y_move rfl) ?_
  refine ow_nil ?_
  refine kw_code (fun _ _ h => h) ?_
  refine cw_block ?_
  refine cw_loop (X := {i : Nat // i ≤ l.length ∧ ∀ j (hj : j < l.length), j < i → l[j] ≠ 0}) (fun x => [(0, .pointer (some ⟨b, 0, none⟩)), (9, .slice (some ⟨bl, 0, none⟩) l.length l.length), (10, .int .i64 l.length), (11, .int .i64 x.1)]) (fun x => gm b bl fr l ++ [R]) (fun x => l.length - x.1) ⟨0, by omega, fun j _ h => by omega⟩ (by repeat (first | exact Sub.nil | refine Sub.cons rfl ?_)) (by repeat (first | exact Split.nil | apply Split.cons (by repeat (first | exact Fnd.here | apply Fnd.there)))) ?_
  rintro ⟨i, hi, hpre⟩ m0 hm0
  try simp only at hm0
  simp only [gm, gcells, List.cons_append, List.nil_append]
  refine cw_seq ?_
  refine cw_region ?_
  refine ow_y (y_lss rfl rfl) ?_
  refine ow_nil ?_
  refine kw_code (fun _ _ h => h) ?_
  refine cw_seq ?_
  refine cw_if rfl (fun hb12 => ?_) (fun hb12 => ?_)
  · skip
    have hlt : i < l.length := by have := of_decide_eq_true hb12; omega
    have hs : l[i]? = some l[i] := List.getElem?_eq_getElem hlt
    refine cw_skip ?_
    refine kw_code (fun _ _ h => h) ?_
    refine cw_seq ?_
    refine cw_block ?_
    refine cw_seq ?_
    refine cw_region ?_
    refine ow_y (y_move rfl) ?_
    refine ow_y (y_ixs F.sl35 rfl rfl (by omega)) ?_
    refine ow_y (y_load F.sc3 rfl (gst_at hs (by omega))) ?_
    refine ow_y (y_assign rfl) ?_
    refine ow_y (y_assign rfl) ?_
    refine ow_nil ?_
    refine kw_code (fun _ _ h => h) ?_
    refine cw_seq ?_
    refine cw_region ?_
    refine ow_y (y_move rfl) ?_
    refine ow_y (y_eql rfl rfl) ?_
    refine ow_nil ?_
    refine kw_code (fun _ _ h => h) ?_
    refine cw_if rfl (fun hb17 => ?_) (fun hb17 => ?_)
    · skip
      have hz : l[i] = 0 := by have := eq_of_beq hb17; omega
      have hf : l.findIdx? (· == 0) = some i := by
        rw [List.findIdx?_eq_some_iff_getElem]
        exact ⟨hlt, by simp [hz], fun j hj => by simpa using hpre j (by omega) hj⟩
      have hset := gset_spec b bl fr i 0 1 l (fr + i) (by omega) (by rw [hs, hz]) (by decide) (by decide) hfr hl
      simp only [hf]
      refine cw_seq ?_
      refine cw_region ?_
      refine ow_y (y_move rfl) ?_
      refine ow_y (y_move rfl) ?_
      refine ow_y (y_nil rfl) ?_
      refine ow_y (y_fld F.fld64_0 rfl) ?_
      refine ow_y (y_load F.sc3 rfl (by rfl)) ?_
      refine ow_y (y_move rfl) ?_
      refine ow_y (y_addI rfl rfl (by omega)) ?_
      refine ow_gives rfl F.hb36 rfl (hset) (by repeat (first | exact Split.nil | apply Split.cons (by repeat (first | exact Fnd.here | apply Fnd.there)))) ?_
      simp only [List.cons_append, List.nil_append]
      refine ow_nil ?_
      refine kw_code (fun _ _ h => h) ?_
      refine cw_seq ?_
      refine cw_region ?_
      refine ow_y (y_move rfl) ?_
      refine ow_y (y_nil rfl) ?_
      refine ow_y (y_fld F.fld64_0 rfl) ?_
      refine ow_y (y_load F.sc3 rfl (by rfl)) ?_
      refine ow_y (y_move rfl) ?_
      refine ow_y (y_addI rfl rfl (by omega)) ?_
      refine ow_y (y_assign rfl) ?_
      refine ow_y (y_assign rfl) ?_
      refine ow_nil ?_
      refine kw_code (fun _ _ h => h) ?_
      refine cw_retG (fun _ _ h => h) rfl rfl (by repeat (first | exact Split.nil | apply Split.cons (by repeat (first | exact Fnd.here | apply Fnd.there))))
    · skip
      have hz : l[i] ≠ 0 := by intro h; rw [h] at hb17; exact absurd hb17 (by decide)
      refine cw_skip ?_
      refine kw_code (fun _ _ h => h) ?_
      refine cw_region ?_
      refine ow_y (y_addI rfl rfl (by omega)) ?_
      refine ow_y (y_move rfl) ?_
      refine ow_nil ?_
      refine kw_round (⟨i + 1, hlt, fun j hj h => ?_⟩) (by first | omega | (simp only; omega)) (by repeat (first | exact Sub.nil | refine Sub.cons rfl ?_)) (by repeat (first | exact Split.nil | apply Split.cons (by repeat (first | exact Fnd.here | apply Fnd.there))))
      rcases Nat.lt_succ_iff_lt_or_eq.1 h with h | h
      · exact hpre j hj h
      · subst h; exact hz
  · skip
    have hge : i = l.length := by have := of_decide_eq_false hb12; omega
    have hf : l.findIdx? (· == 0) = none := by
      rw [List.findIdx?_eq_none_iff]
      intro x hx
      obtain ⟨j, hj, rfl⟩ := List.getElem_of_mem hx
      simpa using hpre j hj (by omega)
    simp only [hf]
    refine cw_exit ?_
    refine kw_code (fun _ _ h => h) ?_
    refine cw_seq ?_
    refine cw_region ?_
    refine ow_y (y_assign rfl) ?_
    refine ow_y (y_assign rfl) ?_
    refine ow_nil ?_
    refine kw_code (fun _ _ h => h) ?_
    refine cw_retG (fun _ _ h => h) rfl rfl (by repeat (first | exact Split.nil | apply Split.cons (by repeat (first | exact Fnd.here | apply Fnd.there))))

def heldL (fr : Nat) : Nat → List Nat → List Value
  | _, [] => []
  | i, x :: l => if x = 1 then .int .i64 (fr + i) :: heldL fr (i + 1) l else heldL fr (i + 1) l
end Go.Proofs.Ytofffddcbjkdcaa
