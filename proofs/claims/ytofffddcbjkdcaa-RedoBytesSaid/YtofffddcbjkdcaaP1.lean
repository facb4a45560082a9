/- Part of the proof; no statement of its own: P1. -/
import Derived.Test.YtofffddcbjkdcaaR1Facts
set_option linter.all false
namespace Go.Proofs.Ytofffddcbjkdcaa
open Go.Sl
/-- what Fail panics with -/
def fault (e : Int) : List PanicEntry := [{ v := .iface 88 (.agg #[.int .i64 e]), recovered := false }]
def Fails (e : Int) : Ending → List Asrt → Prop := fun en L => en = .panicked (fault e) ∧ L = []
theorem fail_spec (e : Int) : Does Try.prog 49 #[.int .i64 e] [] (Fails e) := by
  refine does_enter Try.func49 rfl Try.ntmps49 rfl (fun R w0 => ?_)
  simp only [envOf, List.cons_append, List.nil_append]
  refine cw_region ?_
  refine ow_y (y_move rfl) ?_
  refine ow_y (y_build F.pl88 rfl (by simp [fillL, nth, Value.cells] <;> rfl)) ?_
  refine ow_y (y_iface F.ni88 rfl) ?_
  refine (ow_panic rfl ?_)
  repeat (first | with_reducible refine kw_inBlock_panic ?_ | with_reducible refine kw_then_panic ?_)
  refine kw_panic (fun _ _ h => h) (Split.back (by repeat (first | exact Split.nil | apply Split.cons (by repeat (first | exact Fnd.here | apply Fnd.there))))) ⟨rfl, rfl⟩
theorem catch_ok (b : Nat) (o : Obj) : DoesD Try.prog 52 #[.pointer (some ⟨b, 0, none⟩)] .returning [pts b o] (fun e u' L' => (∃ v, e = .returned v) ∧ settle u' = .returning ∧ L' = [pts b o]) := by
  refine doesD_rec (args := [.pointer (some ⟨b, 0, none⟩)]) Try.func52 rfl Try.ntmps52 rfl rfl rfl (fun R w0 => ?_)
  simp only [rec1, envOf, List.cons_append, List.nil_append]
  refine cw_seq ?_
  refine cw_seq ?_
  refine cw_region ?_
  refine ow_y (y_move rfl) ?_
  refine ow_y (y_if_nil F.if20 rfl rfl) ?_
  refine ow_nil ?_
  refine kw_code (fun _ _ h => h) ?_
  refine cw_true rfl (by first | rfl | exact decide_eq_true (by omega)) ?_
  refine cw_ret (kw_ret (fun _ _ h => h) rfl (Split.back (by repeat (first | exact Split.nil | apply Split.cons (by repeat (first | exact Fnd.here | apply Fnd.there))))) ⟨⟨_, rfl⟩, rfl, rfl⟩)
theorem catch_fault (b : Nat) (e e0 : Int) : DoesD Try.prog 52 #[.pointer (some ⟨b, 0, none⟩)] (.panicking (fault e)) [pts b (.cells #[.int .i64 e0] 48 (0, 0))]
    (fun e' u' L' => (∃ v, e' = .returned v) ∧ settle u' = .returning ∧ L' = [pts b (.cells #[.int .i64 e] 48 (0, 0))]) := by
  refine doesD_rec (args := [.pointer (some ⟨b, 0, none⟩)]) Try.func52 rfl Try.ntmps52 rfl rfl rfl (fun R w0 => ?_)
  simp only [rec1, fault, envOf, List.cons_append, List.nil_append]
  refine cw_seq ?_
  refine cw_seq ?_
  refine cw_region ?_
  refine ow_y (y_move rfl) ?_
  refine ow_y (y_if_nil F.if20 rfl rfl) ?_
  refine ow_nil ?_
  refine kw_code (fun _ _ h => h) ?_
  refine cw_false rfl (by first | rfl | exact decide_eq_false (by omega)) ?_
  refine cw_skip ?_
  refine kw_code (fun _ _ h => h) ?_
  refine cw_seq ?_
  refine cw_region ?_
  refine ow_y (y_move rfl) ?_
  refine ow_y (y_assert F.ni88 rfl) ?_
  refine ow_y (y_move rfl) ?_
  refine ow_y (y_ext rfl rfl) ?_
  refine ow_y (y_ext rfl rfl) ?_
  refine (ow_alloc F.z88 (fun b3 => ?_))
  refine (ow_storeAgg F.sz88 rfl rfl (by first | rfl | simp) (by simp [Value.oneCell']) (by simp [Value.cells]) (by simp [splice, Value.cells] <;> rfl) ?_)
  refine ow_y (y_assign rfl) ?_
  refine ow_nil ?_
  refine kw_code (fun _ _ h => h) ?_
  refine cw_seq ?_
  refine cw_seq ?_
  refine cw_region ?_
  refine ow_y (y_move rfl) ?_
  refine ow_y (y_not rfl) ?_
  refine ow_nil ?_
  refine kw_code (fun _ _ h => h) ?_
  refine cw_false rfl (by first | rfl | exact decide_eq_false (by omega)) ?_
  refine cw_skip ?_
  refine kw_code (fun _ _ h => h) ?_
  refine cw_region ?_
  refine ow_y (y_move rfl) ?_
  refine ow_y (y_fld F.fld88_0 rfl) ?_
  refine ow_y (y_load F.sc48 rfl (by rfl)) ?_
  refine ow_y (y_nil rfl) ?_
  refine (ow_store F.sz48 rfl rfl (by first | rfl | assumption) (by rfl) (by (try simp only [List.set_cons_zero, List.set_cons_succ, Nat.reduceAdd, Nat.reduceMul, Int.reduceToNat, Nat.zero_add, Nat.add_zero]); rfl) ?_)
  refine ow_nil ?_
  refine kw_fin rfl (Split.back (by repeat (first | exact Split.nil | apply Split.cons (by repeat (first | exact Fnd.here | apply Fnd.there))))) ⟨⟨_, rfl⟩, rfl, rfl⟩

theorem Split.mid {A F : Asrt} {Pre : List Asrt} : Split (A :: (Pre ++ [F])) Pre [A, F] := List.perm_middle.symm.trans (List.Perm.refl _)
/-- what runs, and what it leaves: an error is told -/
theorem try_spec {X Y : Type} (b : Nat) (g : FuncId) (cap : List Value) (Pre : List Asrt) (p : X → Prop) (v : X → Value) (N : X → List Asrt) (q : Y → Prop) (er : Y → Int) (N' : Y → List Asrt) (e0 : Int)
    (hb : hasBody Try.prog g = true) (hg : Does Try.prog g cap.toArray Pre (GivesF p v N q (fun y => fault (er y)) N')) :
    Does Try.prog 46 #[.func (.func g) #[] cap.toArray, .pointer (some ⟨b, 0, none⟩)] (pts b (.cells #[.int .i64 e0] 48 (0, 0)) :: Pre)
      (GivesE (fun z : X ⊕ Y => match z with | .inl x => p x | .inr y => q y) (fun _ => .tuple #[]) (fun z => match z with | .inl x => pts b (.cells #[.int .i64 e0] 48 (0, 0)) :: N x | .inr y => pts b (.cells #[.int .i64 (er y)] 48 (0, 0)) :: N' y)) := by
  refine does_enterD (args := [_, _]) Try.func46 rfl Try.ntmps46 rfl (fun R w0 => ?_)
  simp only [envOf, List.cons_append, List.nil_append]
  refine cw_seq ?_
  refine cw_region ?_
  refine ow_y (y_move rfl) ?_
  refine ow_defer (f := 52) (first := []) (cap := []) rfl rfl ?_
  refine ow_nil ?_
  refine kw_code (fun _ _ h => h) ?_
  refine cw_region ?_
  refine ow_y (y_move rfl) ?_
  refine ow_givesF (first := []) (cap := cap) (vs := []) rfl hb rfl hg Split.mid ?_ ?_
  · intro x hx
    refine ow_nil ?_
    refine kw_leaveD (f := 52) (cap := []) (args := [.pointer (some ⟨b, 0, none⟩)]) (u := .returning) (.inl ⟨.inl rfl, rfl⟩) (fun _ _ h => h) rfl F.hb52 (catch_ok b (.cells #[.int .i64 e0] 48 (0, 0))) (M := N x ++ [R]) (L' := pts b (.cells #[.int .i64 e0] 48 (0, 0)) :: N x) (R := []) ?_ ?_ ⟨.inl x, hx, rfl, rfl⟩
    · exact List.perm_middle
    · show List.Perm ([_] ++ (N x ++ [R])) ((R :: _ :: N x) ++ [])
      rw [List.append_nil, ← List.append_assoc]
      exact List.perm_append_comm
  · intro y hy
    refine kw_leaveD (f := 52) (cap := []) (args := [.pointer (some ⟨b, 0, none⟩)]) (u := .panicking (fault (er y))) (.inr ⟨_, rfl, rfl⟩) (fun _ _ h => h) rfl F.hb52 (catch_fault b (er y) e0) (M := N' y ++ [R]) (L' := pts b (.cells #[.int .i64 (er y)] 48 (0, 0)) :: N' y) (R := []) ?_ ?_ ⟨.inr y, hy, rfl, rfl⟩
    · exact List.perm_middle
    · show List.Perm ([_] ++ (N' y ++ [R])) ((R :: _ :: N' y) ++ [])
      rw [List.append_nil, ← List.append_assoc]
      exact List.perm_append_comm
theorem guard_spec {X Y : Type} (g : FuncId) (cap : List Value) (Pre : List Asrt) (p : X → Prop) (v : X → Value) (N : X → List Asrt) (q : Y → Prop) (er : Y → Int) (N' : Y → List Asrt)
    (hb : hasBody Try.prog g = true) (hg : Does Try.prog g cap.toArray Pre (GivesF p v N q (fun y => fault (er y)) N')) :
    Does Try.prog 41 #[.func (.func g) #[] cap.toArray] Pre
      (GivesE (fun z : X ⊕ Y => match z with | .inl x => p x | .inr y => q y) (fun z => match z with | .inl _ => .int .i64 0 | .inr y => .int .i64 (er y)) (fun z => match z with | .inl x => N x | .inr y => N' y)) := by
  refine does_enter Try.func41 rfl Try.ntmps41 rfl (fun R w0 => ?_)
  simp only [envOf, List.cons_append, List.nil_append]
  refine cw_seq ?_
  refine cw_region ?_
  refine ow_y (y_assign rfl) ?_
  refine ow_nil ?_
  refine kw_code (fun _ _ h => h) ?_
  refine cw_seq ?_
  refine cw_region ?_
  refine (ow_alloc F.z48 (fun b3 => ?_))
  refine (ow_store F.sz48 rfl rfl (by first | rfl | assumption) (by rfl) (by (try simp only [List.set_cons_zero, List.set_cons_succ, Nat.reduceAdd, Nat.reduceMul, Int.reduceToNat, Nat.zero_add, Nat.add_zero]); rfl) ?_)
  refine ow_nil ?_
  refine kw_code (fun _ _ h => h) ?_
  refine cw_seq ?_
  refine cw_region ?_
  refine ow_y (y_move rfl) ?_
  refine ow_givesE (first := []) (cap := []) rfl F.hb46 rfl (try_spec b3 g cap Pre p v N q er N' 0 hb hg) (M := [R]) (List.Perm.refl _) ?_
  have hsp : ∀ (A : Asrt) (M : List Asrt), Split (A :: (M ++ [R])) (R :: M) [A] := fun A M => by
    show List.Perm _ ((R :: M) ++ [A])
    have h1 : List.Perm (A :: (M ++ [R])) ((M ++ [R]) ++ [A]) := List.perm_append_comm (l₁ := [A])
    exact h1.trans ((List.perm_append_comm (l₁ := M) (l₂ := [R])).append_right [A])
  rintro (x | y) hz
  · simp only [List.cons_append, List.nil_append]
    refine ow_nil ?_
    refine kw_code (fun _ _ h => h) ?_
    refine cw_seq ?_
    refine cw_region ?_
    refine ow_y (y_load F.sc48 rfl (by rfl)) ?_
    refine ow_y (y_assign rfl) ?_
    refine ow_nil ?_
    refine kw_code (fun _ _ h => h) ?_
    exact cw_retE (.inl x) hz (fun _ _ h => h) rfl rfl (hsp _ _)
  · simp only [List.cons_append, List.nil_append]
    refine ow_nil ?_
    refine kw_code (fun _ _ h => h) ?_
    refine cw_seq ?_
    refine cw_region ?_
    refine ow_y (y_load F.sc48 rfl (by rfl)) ?_
    refine ow_y (y_assign rfl) ?_
    refine ow_nil ?_
    refine kw_code (fun _ _ h => h) ?_
    exact cw_retE (.inr y) hz (fun _ _ h => h) rfl rfl (hsp _ _)
end Go.Proofs.Ytofffddcbjkdcaa
