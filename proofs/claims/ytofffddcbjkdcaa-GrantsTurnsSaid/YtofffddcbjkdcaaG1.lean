/- Part of the proof; no statement of its own: G1. -/
import Derived.Test.YtofffddcbjkdcaaR1Facts
set_option linter.all false
namespace Go.Proofs.Ytofffddcbjkdcaa
open Go.Sl

def gst (s : Nat) : Value := .int .i64 s
def gcells (fr bl : Nat) (l : List Nat) : List Value := [.int .i64 fr, .slice (some ⟨bl, 0, none⟩) l.length l.length, .int .i64 (l.count 0), .int .i64 (l.count 1), .int .i64 (l.count 2)]
abbrev gm (b bl fr : Nat) (l : List Nat) : List Asrt := [pts b (.cells (gcells fr bl l).toArray 64 (0, 0)), pts bl (.cells (l.map gst).toArray 3 (0, 0))]

theorem gst_at {l : List Nat} {i k s : Nat} (hs : l[i]? = some s) (hk : k = i) : nth (l.map gst) k = some (.int .i64 s) := by
  subst hk; rw [nth_eq]; simp [hs, gst]

theorem gset_spec (b bl fr i s what : Nat) (l : List Nat) (at_ : Int) (hat : at_ = fr + i) (hs : l[i]? = some s) (hs3 : s < 3) (hw3 : what < 3) (hfr : fr ≤ 5000) (hl : l.length ≤ 5000) :
    Does Try.prog 36 #[.pointer (some ⟨b, 0, none⟩), .int .i64 at_, .int .i64 what] (gm b bl fr l) (fun e L => e = .returned (.tuple #[]) ∧ L = gm b bl fr (l.set i what)) := by
  have hi : i < l.length := by
    rcases Nat.lt_or_ge i l.length with h | h
    · exact h
    · rw [List.getElem?_eq_none h] at hs; cases hs
  have c0 : l.count 0 ≤ l.length := List.count_le_length
  have c1 : l.count 1 ≤ l.length := List.count_le_length
  have c2 : l.count 2 ≤ l.length := List.count_le_length
  have hsub : at_ - (fr : Int) = i := by omega
  have hti : (at_ - (fr : Int)).toNat = i := by omega
  have s3 : s = 0 ∨ s = 1 ∨ s = 2 := by omega
  have w3 : what = 0 ∨ what = 1 ∨ what = 2 := by omega
  have hs' : l[i] = s := by rw [List.getElem?_eq_getElem hi] at hs; exact Option.some.inj hs
  have hpos : 0 < l.count s := List.count_pos_iff.2 (hs' ▸ List.getElem_mem hi)
  have hset := fun k => List.count_set (a := what) (b := k) hi
  rw [hs'] at hset
  have hmap : (l.map gst).set (0 + (at_ - (fr : Int)).toNat * 1) (.int .i64 what) = (l.set i what).map gst := by
    rw [hti, Nat.zero_add, Nat.mul_one, List.map_set]; rfl
  have he : ((l.count s - 1 : Nat) : Int) = (l.count s : Int) - 1 := by omega
  rcases s3 with rfl | rfl | rfl <;> rcases w3 with rfl | rfl | rfl
  all_goals
    refine does_enter Try.func36 rfl Try.ntmps36 rfl (fun R w0 => ?_)
    simp only [envOf, List.cons_append, List.nil_append, gm, gcells]
    refine cw_seq ?_
    refine cw_tail 20 F.fol (by kernel_rfl) ?_
    simp only [List.take_succ_cons, List.take_zero, List.drop_succ_cons, List.drop_zero]
    refine os_y (y_move rfl) ?_
    refine os_y (y_move rfl) ?_
    refine os_y (y_nil rfl) ?_
    refine os_y (y_fld F.fld64_1 rfl) ?_
    refine os_y (y_load F.sc35 rfl (by rfl)) ?_
    refine os_y (y_move rfl) ?_
    refine os_y (y_move rfl) ?_
    refine os_y (y_nil rfl) ?_
    refine os_y (y_fld F.fld64_0 rfl) ?_
    refine os_y (y_load F.sc3 rfl (by rfl)) ?_
    refine os_y (y_subI rfl rfl (by omega)) ?_
    refine os_y (y_ixs F.sl35 rfl rfl (by omega)) ?_
    refine os_y (y_load F.sc3 rfl (gst_at hs (by omega))) ?_
    refine os_y (y_nil rfl) ?_
    refine os_y (y_fld F.fld64_2 rfl) ?_
    refine os_y (y_ixa F.ar62 rfl rfl (by decide)) ?_
    refine os_y (y_load F.sc3 rfl (by rfl)) ?_
    refine os_y (y_subI rfl rfl (by omega)) ?_
    refine os_y (y_nil rfl) ?_
    refine os_y (y_fld F.fld64_2 rfl) ?_
    refine os_nil ?_
    refine ow_y (y_ixa F.ar62 rfl rfl (by decide)) ?_
    refine (ow_store F.sz3 rfl rfl rfl (by rfl) (by (try simp only [List.set_cons_zero, List.set_cons_succ, Nat.reduceAdd, Nat.reduceMul, Int.reduceToNat, Nat.zero_add, Nat.add_zero]); rfl) ?_)
    refine ow_nil ?_
    refine kw_code (fun _ _ h => h) ?_
    refine cw_seq ?_
    refine cw_tail 11 F.fol (by kernel_rfl) ?_
    simp only [List.take_succ_cons, List.take_zero, List.drop_succ_cons, List.drop_zero]
    refine os_y (y_move rfl) ?_
    refine os_y (y_nil rfl) ?_
    refine os_y (y_fld F.fld64_1 rfl) ?_
    refine os_y (y_load F.sc35 rfl (by rfl)) ?_
    refine os_y (y_move rfl) ?_
    refine os_y (y_move rfl) ?_
    refine os_y (y_nil rfl) ?_
    refine os_y (y_fld F.fld64_0 rfl) ?_
    refine os_y (y_load F.sc3 rfl (by rfl)) ?_
    refine os_y (y_subI rfl rfl (by omega)) ?_
    refine os_y (y_move rfl) ?_
    refine os_nil ?_
    refine ow_y (y_ixs F.sl35 rfl rfl (by omega)) ?_
    refine (ow_store F.sz3 rfl rfl rfl (by simp; omega) (by rfl) ?_)
    refine ow_nil ?_
    refine kw_code (fun _ _ h => h) ?_
    refine cw_tail 9 F.fol (by kernel_rfl) ?_
    simp only [List.take_succ_cons, List.take_zero, List.drop_succ_cons, List.drop_zero]
    refine os_y (y_move rfl) ?_
    refine os_y (y_move rfl) ?_
    refine os_y (y_nil rfl) ?_
    refine os_y (y_fld F.fld64_2 rfl) ?_
    refine os_y (y_ixa F.ar62 rfl rfl (by decide)) ?_
    refine os_y (y_load F.sc3 rfl (by rfl)) ?_
    refine os_y (y_addI rfl rfl (by omega)) ?_
    refine os_y (y_nil rfl) ?_
    refine os_y (y_fld F.fld64_2 rfl) ?_
    refine os_nil ?_
    refine ow_y (y_ixa F.ar62 rfl rfl (by decide)) ?_
    refine (ow_store F.sz3 rfl rfl rfl (by rfl) (by (try simp only [List.set_cons_zero, List.set_cons_succ, Nat.reduceAdd, Nat.reduceMul, Int.reduceToNat, Nat.zero_add, Nat.add_zero]); rfl) ?_)
    refine ow_nil ?_
    refine kw_fin rfl (L' := [_, _]) (by repeat (first | exact Split.nil | refine Split.cons Fnd.here ?_)) ⟨rfl, ?_⟩
    rw [hmap]
    simp [hset, he]

end Go.Proofs.Ytofffddcbjkdcaa
