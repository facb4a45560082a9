/- Part of the proof; no statement of its own: P4. -/
import Derived.Test.YtofffddcbjkdcaaP3
set_option linter.all false
namespace Go.Proofs.Ytofffddcbjkdcaa
open Go.Sl
theorem guard_ok (g : FuncId) (cap : List Value) (Pre N : List Asrt) (v : Value) (hb : hasBody Try.prog g = true) (hg : Does Try.prog g cap.toArray Pre (Gives v N)) :
    Does Try.prog 41 #[.func (.func g) #[] cap.toArray] Pre (Gives (.int .i64 0) N) := by
  refine Does.imp (guard_spec (X := Unit) (Y := Empty) g cap Pre (fun _ => True) (fun _ => v) (fun _ => N) (fun _ => True) (fun _ => 0) (fun _ => []) hb (Does.imp hg ?_)) ?_
  · rintro e L ⟨rfl, rfl⟩; exact .inl ⟨(), trivial, rfl, rfl⟩
  · rintro e L ⟨x | y, _, rfl, rfl⟩
    · exact ⟨rfl, rfl⟩
    · exact y.elim
theorem guard_err (g : FuncId) (cap : List Value) (Pre N : List Asrt) (er : Int) (hb : hasBody Try.prog g = true) (hg : Does Try.prog g cap.toArray Pre (fun en L => en = .panicked (fault er) ∧ L = N)) :
    Does Try.prog 41 #[.func (.func g) #[] cap.toArray] Pre (Gives (.int .i64 er) N) := by
  refine Does.imp (guard_spec (X := Empty) (Y := Unit) g cap Pre (fun _ => True) (fun _ => .int .i64 0) (fun _ => []) (fun _ => True) (fun _ => er) (fun _ => N) hb (Does.imp hg ?_)) ?_
  · rintro e L ⟨rfl, rfl⟩; exact .inr ⟨(), trivial, rfl, rfl⟩
  · rintro e L ⟨x | y, _, rfl, rfl⟩
    · exact x.elim
    · exact ⟨rfl, rfl⟩
def opC (kind id at_ n : Nat) (data : ByteArray) : List Value := [.int .i64 kind, .int .u32 id, .int .i64 at_, .int .i64 n, .string data]
abbrev pop (b : Nat) (cs : List Value) : Asrt := pts b (.cells cs.toArray 46 (0, 0))
theorem parse1_ok (l : List UInt8) (b1 b2 : Nat) (cs : List Value) (hcs : cs.length = 5) (v : List Value) (hv : v.length = 5) (hv1 : ∀ x ∈ v, x.oneCell' = true) (h : Does Try.prog 43 #[.string (bs l)] [] (Gives (.agg v.toArray) [])) :
    Does Try.prog 42 #[.pointer (some ⟨b1, 0, none⟩), .pointer (some ⟨b2, 0, none⟩)] [pts b1 (.cells #[.string (bs l)] 9 (0, 0)), pop b2 cs] (Gives (.tuple #[]) [pop b2 v]) := by
  refine does_enter Try.func42 rfl Try.ntmps42 rfl (fun R w0 => ?_)
  simp only [envOf, List.cons_append, List.nil_append]
  refine cw_region ?_
  refine ow_y (y_load F.sc9 rfl (by rfl)) ?_
  refine ow_gives rfl F.hb43 rfl (h) (by repeat (first | exact Split.nil | apply Split.cons (by repeat (first | exact Fnd.here | apply Fnd.there)))) ?_
  simp only [List.cons_append, List.nil_append]
  refine ow_storeAgg F.sz46 rfl rfl (by simp [hv]) (fun x hx => hv1 x (by simpa using hx)) (by simp [hcs, hv]) (splice_all (by simp [hcs, hv])) ?_
  refine ow_nil ?_
  refine kw_finG rfl rfl (by repeat (first | exact Split.nil | apply Split.cons (by repeat (first | exact Fnd.here | apply Fnd.there))))
theorem parse1_err (l : List UInt8) (b1 b2 : Nat) (cs : List Value) (er : Int) (h : Does Try.prog 43 #[.string (bs l)] [] (Fails er)) :
    Does Try.prog 42 #[.pointer (some ⟨b1, 0, none⟩), .pointer (some ⟨b2, 0, none⟩)] [pts b1 (.cells #[.string (bs l)] 9 (0, 0)), pop b2 cs] (fun en L => en = .panicked (fault er) ∧ L = [pop b2 cs]) := by
  refine does_enter Try.func42 rfl Try.ntmps42 rfl (fun R w0 => ?_)
  simp only [envOf, List.cons_append, List.nil_append]
  refine cw_region ?_
  refine ow_y (y_load F.sc9 rfl (by rfl)) ?_
  refine ow_fails rfl F.hb43 rfl (h) (by repeat (first | exact Split.nil | apply Split.cons (by repeat (first | exact Fnd.here | apply Fnd.there)))) ?_
  simp only [List.cons_append, List.nil_append]
  repeat (first | with_reducible refine kw_inBlock_panic ?_ | with_reducible refine kw_then_panic ?_)
  refine kw_panic (fun _ _ h => h) (Split.back (by repeat (first | exact Split.nil | apply Split.cons (by repeat (first | exact Fnd.here | apply Fnd.there))))) ⟨rfl, rfl⟩
theorem lparse_ok (l : List UInt8) (v : List Value) (hv : v.length = 5) (hv1 : ∀ x ∈ v, x.oneCell' = true) (h : Does Try.prog 43 #[.string (bs l)] [] (Gives (.agg v.toArray) [])) :
    Does Try.prog 30 #[.string (bs l)] [] (Gives (.tuple #[.agg v.toArray, .int .i64 0]) []) := by
  refine does_enter Try.func30 rfl Try.ntmps30 rfl (fun R w0 => ?_)
  simp only [envOf, List.cons_append, List.nil_append]
  refine cw_seq ?_
  refine cw_region ?_
  refine (ow_box rfl (fun b1 => ?_))
  refine (ow_alloc F.z46 (fun b2 => ?_))
  refine ow_y (y_assign rfl) ?_
  refine ow_nil ?_
  refine kw_code (fun _ _ h => h) ?_
  refine cw_seq ?_
  refine cw_region ?_
  refine (ow_alloc F.z46 (fun b4 => ?_))
  refine ow_nil ?_
  refine kw_code (fun _ _ h => h) ?_
  refine cw_seq ?_
  refine cw_region ?_
  refine ow_y (y_func rfl rfl rfl) ?_
  refine ow_gives rfl F.hb41 rfl (guard_ok 42 [.pointer (some ⟨b1, 0, none⟩), .pointer (some ⟨b4, 0, none⟩)] [pts b1 (.cells #[.string (bs l)] 9 (0, 0)), pop b4 (opC 0 0 0 0 ByteArray.empty)] [pop b4 v] (.tuple #[]) F.hb42 (parse1_ok l b1 b4 _ rfl v hv hv1 h)) (by repeat (first | exact Split.nil | apply Split.cons (by repeat (first | exact Fnd.here | apply Fnd.there)))) ?_
  simp only [List.cons_append, List.nil_append]
  refine ow_y (y_assign rfl) ?_
  refine ow_nil ?_
  refine kw_code (fun _ _ h => h) ?_
  refine cw_seq ?_
  refine cw_region ?_
  refine ow_y (y_loadAgg F.ag46 rfl (by simp [hv]) (extract_all (by simp [hv]))) ?_
  refine ow_y (y_move rfl) ?_
  refine ow_storeAgg F.sz46 rfl rfl (by simp [hv]) (fun x hx => hv1 x (by simpa using hx)) (by simp [hv, Value.cells]) (splice_all (by simp [hv, Value.cells])) ?_
  refine ow_y (y_assign rfl) ?_
  refine ow_nil ?_
  refine kw_code (fun _ _ h => h) ?_
  refine cw_retGC (fun _ _ h => h) (RV.agg F.ag46 rfl (by simp [hv]) (extract_all (by simp [hv])) (RV.tmp rfl RV.nil)) rfl (by repeat (first | exact Split.nil | apply Split.cons (by repeat (first | exact Fnd.here | apply Fnd.there))))
theorem lparse_err (l : List UInt8) (er : Int) (h : Does Try.prog 43 #[.string (bs l)] [] (Fails er)) :
    Does Try.prog 30 #[.string (bs l)] [] (Gives (.tuple #[.agg (opC 0 0 0 0 ByteArray.empty).toArray, .int .i64 er]) []) := by
  refine does_enter Try.func30 rfl Try.ntmps30 rfl (fun R w0 => ?_)
  simp only [envOf, List.cons_append, List.nil_append]
  refine cw_seq ?_
  refine cw_region ?_
  refine (ow_box rfl (fun b1 => ?_))
  refine (ow_alloc F.z46 (fun b2 => ?_))
  refine ow_y (y_assign rfl) ?_
  refine ow_nil ?_
  refine kw_code (fun _ _ h => h) ?_
  refine cw_seq ?_
  refine cw_region ?_
  refine (ow_alloc F.z46 (fun b4 => ?_))
  refine ow_nil ?_
  refine kw_code (fun _ _ h => h) ?_
  refine cw_seq ?_
  refine cw_region ?_
  refine ow_y (y_func rfl rfl rfl) ?_
  refine ow_gives rfl F.hb41 rfl (guard_err 42 [.pointer (some ⟨b1, 0, none⟩), .pointer (some ⟨b4, 0, none⟩)] [pts b1 (.cells #[.string (bs l)] 9 (0, 0)), pop b4 (opC 0 0 0 0 ByteArray.empty)] [pop b4 (opC 0 0 0 0 ByteArray.empty)] er F.hb42 (parse1_err l b1 b4 _ er h)) (by repeat (first | exact Split.nil | apply Split.cons (by repeat (first | exact Fnd.here | apply Fnd.there)))) ?_
  simp only [List.cons_append, List.nil_append]
  refine ow_y (y_assign rfl) ?_
  refine ow_nil ?_
  refine kw_code (fun _ _ h => h) ?_
  refine cw_seq ?_
  refine cw_region ?_
  refine ow_y (y_loadAgg F.ag46 rfl (by simp [opC]) (extract_all (by simp [opC]))) ?_
  refine ow_y (y_move rfl) ?_
  refine ow_storeAgg F.sz46 rfl rfl (by simp [opC]) (by simp [opC, Value.oneCell']) (by simp [opC, Value.cells]) (splice_all (by simp [opC, Value.cells])) ?_
  refine ow_y (y_assign rfl) ?_
  refine ow_nil ?_
  refine kw_code (fun _ _ h => h) ?_
  refine cw_retGC (fun _ _ h => h) (RV.agg F.ag46 rfl (by simp [opC]) (extract_all (by simp [opC])) (RV.tmp rfl RV.nil)) rfl (by repeat (first | exact Split.nil | apply Split.cons (by repeat (first | exact Fnd.here | apply Fnd.there))))
/-- the error, and the op -/
def errL (l : List UInt8) : Int := if l.length < 9 then 2 else if 1 ≤ be (l.take 1) ∧ be (l.take 1) ≤ 7 then 0 else 15
def resC (l : List UInt8) : List Value := if errL l = 0 then opC (be (l.take 1)) (be ((l.drop 1).take 4)) (be ((l.drop 5).take 2)) (be ((l.drop 7).take 2)) (bs (l.drop 9)) else opC 0 0 0 0 ByteArray.empty
theorem lparse_spec (l : List UInt8) (hs : l.length ≤ 1000000) : Does Try.prog 30 #[.string (bs l)] [] (Gives (.tuple #[.agg (resC l).toArray, .int .i64 (errL l)]) []) := by
  by_cases h9 : l.length < 9
  · have := lparse_err l 2 (parse_end l h9)
    simpa [errL, resC, h9] using this
  · by_cases hk : 1 ≤ be (l.take 1) ∧ be (l.take 1) ≤ 7
    · have := lparse_ok l (opC (be (l.take 1)) (be ((l.drop 1).take 4)) (be ((l.drop 5).take 2)) (be ((l.drop 7).take 2)) (bs (l.drop 9))) rfl (by simp [opC, Value.oneCell']) (parse_ok l (by omega) hs hk.1 hk.2)
      have e : errL l = 0 := by unfold errL; rw [if_neg h9, if_pos hk]
      unfold resC; rw [e, if_pos rfl]; exact this
    · have := lparse_err l 15 (parse_kind l (by omega) hs hk)
      have e : errL l = 15 := by unfold errL; rw [if_neg h9, if_neg hk]
      unfold resC; rw [e, if_neg (by decide)]; exact this
end Go.Proofs.Ytofffddcbjkdcaa
