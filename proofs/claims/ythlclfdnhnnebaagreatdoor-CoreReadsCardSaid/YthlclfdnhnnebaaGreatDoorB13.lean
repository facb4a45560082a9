/- Part of the proof; no statement of its own: U10, D1, D2, G7F, G7, H1, H2. -/
import Derived.Test.YthlclfdnhnnebaaGreatDoorB08
import Derived.Test.YthlclfdnhnnebaaGreatDoorB06
import Derived.Test.YthlclfdnhnnebaaGreatDoorB12
import Derived.Test.YthlclfdnhnnebaaGreatDoorB07
import Derived.Test.YthlclfdnhnnebaaGreatDoorProg
import Derived.KernelRfl
import Derived.Test.YthlclfdnhnnebaaGreatDoorB09
import Derived.Test.YthlclfdnhnnebaaGreatDoorB10
set_option linter.all false
section
set_option maxRecDepth 4000
set_option maxHeartbeats 4000000
namespace Go.Proofs.YthlclfdnhnnebaaGreatDoor
open Go.Sl Go.Sb
theorem RS_leave (W : World) (a : Ad) (t : St) : RS W a (leave t) = [whole W, dkC a t.d, dkR a t.d, fact (DkOK t.d), stC a t.bits, mpC a, HL a (leave t)] := by unfold leave; split <;> rfl
theorem undoL_d (s : St) : ∀ l, (undoL s l).d = s.d ∧ (undoL s l).bits = s.bits
  | [] => ⟨rfl, rfl⟩
  | st :: l => by
    have := undoL_d s l
    cases st <;> exact this
theorem undoTo_d (m : Nat) (s : St) : (undoTo m s).d = s.d := (undoL_d s _).1
theorem undoTo_bits (m : Nat) (s : St) : (undoTo m s).bits = s.bits := (undoL_d s _).2
theorem logTry_spec {C : Type} (W : World) (a : Ad) (RC : C → Asrt) (g : FuncId) (cap : List Value) (run : Run (St × C) Unit) (s : St) (c : C) (hb : hasBody Tryz.prog g = true) (hnb : (tryL run (s, c)).1 ≠ .big)
    (hrun : (run ({ s with depth := s.depth + 1 }, c)).1 ≠ .big → Does Tryz.prog g cap.toArray (RS W a { s with depth := s.depth + 1 } ++ [RC c]) (Ran fT (fun x => RS W a x.1 ++ [RC x.2]) (fun _ => .tuple #[]) (run ({ s with depth := s.depth + 1 }, c)))) :
    Does Tryz.prog 81 #[ptr a.log, .func (.func g) #[] cap.toArray] (RS W a s ++ [RC c]) (Ran fT (fun x => RS W a x.1 ++ [RC x.2]) (fun e => .int .i64 e) (tryL run (s, c))) := by
  have hd : s.depth < 1000000000 := by
    rcases Nat.lt_or_ge s.depth 1000000000 with h | h
    · exact h
    · exact (hnb (by simp [tryL, h])).elim
  have hd' : ¬ 1000000000 ≤ s.depth := by omega
  cases ho : run ({ s with depth := s.depth + 1 }, c) with
  | mk x y =>
  obtain ⟨t, c'⟩ := y
  rw [ho] at hrun
  cases x with
  | big => exact (hnb (by simp [tryL, hd', ho])).elim
  | ok x =>
    have ht : t.depth ≠ 0 := fun h => hnb (by simp [tryL, hd', ho, h])
    have htr : tryL run (s, c) = (.ok 0, (leave t, c')) := by simp [tryL, hd', ho, ht]
    have hg := guard_ok g cap _ _ _ hb (hrun (by simp)).ran_ok
    refine does_enterD (args := [_, _]) Tryz.func81 rfl Tryz.ntmps81 rfl (fun R w0 => ?_)
    simp only [envOf, List.cons_append, List.nil_append]
    refine cw_hl aFd fun by_ gv gc o hgo hok => ?_
    refine cw_log aFd fun v vals hlk hdp hv1 => ?_
    have hlen := hlk.len
    refine cw_seq ?_
    refine cw_region ?_
    refine ow_y (y_assign rfl) ?_
    refine ow_nil ?_
    refine kw_code (fun _ _ h => h) ?_
    refine cw_seq ?_
    refine cw_region ?_
    refine ow_y (y_move rfl) ?_
    refine ow_y (y_nil rfl) ?_
    refine ow_y (y_fld F.fld139_0 rfl) ?_
    refine ow_y (y_load F.sc137 rfl (by rfl)) ?_
    refine ow_y (y_len_row F.sl137 rfl aFd) ?_
    refine ow_y (y_assign rfl) ?_
    refine ow_nil ?_
    refine kw_code (fun _ _ h => h) ?_
    refine cw_seq ?_
    refine cw_region ?_
    refine ow_y (y_move rfl) ?_
    refine ow_y (y_nil rfl) ?_
    refine ow_y (y_fld F.fld139_1 rfl) ?_
    refine ow_y (y_load F.sc3 rfl (by rfl)) ?_
    refine ow_y (y_addI rfl rfl (by omega)) ?_
    refine ow_y (y_nil rfl) ?_
    refine ow_y (y_fld F.fld139_1 rfl) ?_
    refine (ow_store F.sz3 rfl rfl (by first | rfl | assumption) (by rfl) (by (try simp only [List.set_cons_zero, List.set_cons_succ, Nat.reduceAdd, Nat.reduceMul, Int.reduceToNat, Nat.zero_add, Nat.add_zero]); rfl) ?_)
    refine ow_nil ?_
    rw [show ((s.depth : Nat) : Int) + 1 = ((s.depth + 1 : Nat) : Int) from rfl]
    refine kw_said (sat_log hlk (depth := s.depth + 1) (by omega) aSp) ?_
    refine kw_said (sat_hl (s := { s with depth := s.depth + 1 }) hgo hok aSp) ?_
    refine kw_code (fun _ _ h => h) ?_
    refine cw_seq ?_
    refine cw_region ?_
    refine ow_y (y_move rfl) ?_
    refine ow_defer (f := 130) (first := []) (cap := []) rfl rfl ?_
    refine ow_nil ?_
    refine kw_code (fun _ _ h => h) ?_
    refine cw_seq ?_
    refine cw_region ?_
    refine ow_y (y_move rfl) ?_
    refine ow_gives rfl F.hb105 rfl (hg) aSp ?_
    try simp only [List.cons_append, List.nil_append]
    refine ow_y (y_assign rfl) ?_
    refine ow_nil ?_
    refine kw_code (fun _ _ h => h) ?_
    refine cw_seq ?_
    refine cw_seq ?_
    refine cw_region ?_
    refine ow_y (y_move rfl) ?_
    refine ow_y (y_neq rfl rfl) ?_
    refine ow_nil ?_
    refine kw_code (fun _ _ h => h) ?_
    refine cw_false rfl (by first | rfl | exact decide_eq_false (by omega)) ?_
    refine cw_skip ?_
    refine kw_code (fun _ _ h => h) ?_
    refine cw_seq ?_
    refine cw_region ?_
    refine ow_y (y_move rfl) ?_
    refine ow_y (y_assign rfl) ?_
    refine ow_nil ?_
    refine kw_code (fun _ _ h => h) ?_
    refine cw_ret (kw_leaveDR (cap := []) (args := [ptr a.log]) (.inr rfl) (fun _ _ h => h) rfl F.hb130 (leave_spec a t (Nat.pos_of_ne_zero ht)) aSp (fun _ _ => ⟨RS W a (leave t) ++ [RC c'], _, by rw [RS_leave]; (try rw [undoTo_d, undoTo_bits]); simp only [List.cons_append, List.nil_append]; exact aSp, by rw [htr]; exact ⟨rfl, rfl⟩⟩))
  | err e =>
    have ht : ¬ (t.depth = 0 ∨ e = 0) := fun h => hnb (by simp [tryL, hd', ho, h])
    have htr : tryL run (s, c) = (.ok e, (leave (undoTo s.log.length t), c')) := by simp [tryL, hd', ho, ht]
    have hg := guard_err g cap _ (RS W a t ++ [RC c']) e hb (hrun (by simp))
    have hdu : (undoTo s.log.length t).depth = t.depth := (undoL_log t _).2
    refine does_enterD (args := [_, _]) Tryz.func81 rfl Tryz.ntmps81 rfl (fun R w0 => ?_)
    simp only [envOf, List.cons_append, List.nil_append]
    refine cw_hl aFd fun by_ gv gc o hgo hok => ?_
    refine cw_log aFd fun v vals hlk hdp hv1 => ?_
    have hlen := hlk.len
    refine cw_seq ?_
    refine cw_region ?_
    refine ow_y (y_assign rfl) ?_
    refine ow_nil ?_
    refine kw_code (fun _ _ h => h) ?_
    refine cw_seq ?_
    refine cw_region ?_
    refine ow_y (y_move rfl) ?_
    refine ow_y (y_nil rfl) ?_
    refine ow_y (y_fld F.fld139_0 rfl) ?_
    refine ow_y (y_load F.sc137 rfl (by rfl)) ?_
    refine ow_y (y_len_row F.sl137 rfl aFd) ?_
    refine ow_y (y_assign rfl) ?_
    refine ow_nil ?_
    refine kw_code (fun _ _ h => h) ?_
    refine cw_seq ?_
    refine cw_region ?_
    refine ow_y (y_move rfl) ?_
    refine ow_y (y_nil rfl) ?_
    refine ow_y (y_fld F.fld139_1 rfl) ?_
    refine ow_y (y_load F.sc3 rfl (by rfl)) ?_
    refine ow_y (y_addI rfl rfl (by omega)) ?_
    refine ow_y (y_nil rfl) ?_
    refine ow_y (y_fld F.fld139_1 rfl) ?_
    refine (ow_store F.sz3 rfl rfl (by first | rfl | assumption) (by rfl) (by (try simp only [List.set_cons_zero, List.set_cons_succ, Nat.reduceAdd, Nat.reduceMul, Int.reduceToNat, Nat.zero_add, Nat.add_zero]); rfl) ?_)
    refine ow_nil ?_
    rw [show ((s.depth : Nat) : Int) + 1 = ((s.depth + 1 : Nat) : Int) from rfl]
    refine kw_said (sat_log hlk (depth := s.depth + 1) (by omega) aSp) ?_
    refine kw_said (sat_hl (s := { s with depth := s.depth + 1 }) hgo hok aSp) ?_
    refine kw_code (fun _ _ h => h) ?_
    refine cw_seq ?_
    refine cw_region ?_
    refine ow_y (y_move rfl) ?_
    refine ow_defer (f := 130) (first := []) (cap := []) rfl rfl ?_
    refine ow_nil ?_
    refine kw_code (fun _ _ h => h) ?_
    refine cw_seq ?_
    refine cw_region ?_
    refine ow_y (y_move rfl) ?_
    refine ow_gives rfl F.hb105 rfl (hg) aSp ?_
    try simp only [List.cons_append, List.nil_append]
    refine ow_y (y_assign rfl) ?_
    refine ow_nil ?_
    refine kw_code (fun _ _ h => h) ?_
    refine cw_seq ?_
    refine cw_seq ?_
    refine cw_region ?_
    refine ow_y (y_move rfl) ?_
    refine ow_y (y_neq rfl rfl) ?_
    refine ow_nil ?_
    refine kw_code (fun _ _ h => h) ?_
    refine cw_true rfl (by simp; exact fun h => ht (.inr h)) ?_
    rw [← hlen]
    refine cw_hl aFd fun by2 gv2 gc2 o2 hgo2 hok2 => ?_
    refine cw_region ?_
    refine ow_y (y_move rfl) ?_
    refine ow_y (y_move rfl) ?_
    refine ow_givesE rfl F.hb131 rfl (to_spec a by2 gv2 gc2 o2 t s.log.length hgo2 hok2) aSp ?_
    rintro ⟨gv3, gc3, o3⟩ hx
    try simp only [List.cons_append, List.nil_append]
    refine ow_nil ?_
    refine kw_said (sat_hl (s := undoTo s.log.length t) hx.1 hx.2 aSp) ?_
    refine kw_code (fun _ _ h => h) ?_
    refine cw_seq ?_
    refine cw_region ?_
    refine ow_y (y_move rfl) ?_
    refine ow_y (y_assign rfl) ?_
    refine ow_nil ?_
    refine kw_code (fun _ _ h => h) ?_
    refine cw_ret (kw_leaveDR (cap := []) (args := [ptr a.log]) (.inr rfl) (fun _ _ h => h) rfl F.hb130 (leave_spec a (undoTo s.log.length t) (by rw [hdu]; omega)) aSp (fun _ _ => ⟨RS W a (leave (undoTo s.log.length t)) ++ [RC c'], _, by rw [RS_leave]; (try rw [undoTo_d, undoTo_bits]); simp only [List.cons_append, List.nil_append]; exact aSp, by rw [htr]; exact ⟨rfl, rfl⟩⟩))
end Go.Proofs.YthlclfdnhnnebaaGreatDoor
end
section
set_option maxRecDepth 4000
set_option maxHeartbeats 4000000
namespace Go.Proofs.YthlclfdnhnnebaaGreatDoor
open Go.Sl Go.Sb
abbrev dk3 (a : Ad) (d : Dk) : List Asrt := [dkC a d, dkR a d, fact (DkOK d)]
def unitV (_ : Unit) : Value := .tuple #[]
theorem alive_ok (a : Ad) (d : Dk) (h : d.dead = false) : Does Tryz.prog 216 #[ptr a.disk] [dkC a d] (Gives (.tuple #[]) [dkC a d]) := by
  refine does_enter Tryz.func216 rfl Tryz.ntmps216 rfl (fun R w0 => ?_)
  simp only [envOf, List.cons_append, List.nil_append]
  refine cw_seq ?_
  refine cw_region ?_
  refine ow_y (y_move rfl) ?_
  refine ow_y (y_nil rfl) ?_
  refine ow_y (y_fld F.fld147_3 rfl) ?_
  refine ow_y (y_load F.sc4 rfl (by rfl)) ?_
  refine ow_nil ?_
  refine kw_code (fun _ _ h => h) ?_
  refine cw_false rfl h ?_
  refine cw_skip ?_
  refine kw_finG rfl rfl aSp
theorem alive_no (a : Ad) (d : Dk) (h : d.dead = true) : Does Tryz.prog 216 #[ptr a.disk] [dkC a d] (fun en L => en = .panicked (faultT fT 12) ∧ L = [dkC a d]) := by
  refine does_enter Tryz.func216 rfl Tryz.ntmps216 rfl (fun R w0 => ?_)
  simp only [envOf, List.cons_append, List.nil_append]
  refine cw_seq ?_
  refine cw_region ?_
  refine ow_y (y_move rfl) ?_
  refine ow_y (y_nil rfl) ?_
  refine ow_y (y_fld F.fld147_3 rfl) ?_
  refine ow_y (y_load F.sc4 rfl (by rfl)) ?_
  refine ow_nil ?_
  refine kw_code (fun _ _ h => h) ?_
  refine cw_true rfl h ?_
  refine cw_region ?_
  refine ow_fails rfl F.hb29 rfl (fail_spec 12) aSp ?_
  simp only [List.cons_append, List.nil_append]
  repeat (first | with_reducible refine kw_inBlock_panic ?_ | with_reducible refine kw_then_panic ?_)
  refine kw_panic (fun _ _ h => h) (Split.back aSp) ⟨rfl, rfl⟩
theorem check_ok (a : Ad) (d : Dk) (at_ : Int) (h : ¬ (at_ < 0 ∨ (d.l.length : Int) ≤ at_)) : Does Tryz.prog 217 #[ptr a.disk, .int .i64 at_] [dkC a d, dkR a d] (Gives (.tuple #[]) [dkC a d, dkR a d]) := by
  refine does_enter Tryz.func217 rfl Tryz.ntmps217 rfl (fun R w0 => ?_)
  simp only [envOf, List.cons_append, List.nil_append]
  refine cw_rowany aFd fun p cap hv hcap hl => ?_
  refine cw_seq ?_
  refine cw_region ?_
  refine ow_y (y_move rfl) ?_
  refine ow_y (y_lss rfl rfl) ?_
  refine ow_y (y_move rfl) ?_
  refine ow_yg (y_move rfl) (fun a w hh => (want_of rfl rfl rfl hh).trans (wFF (by first | rfl | exact decide_eq_false (by omega)))) ?_
  refine ow_yg (y_move rfl) (fun a w hh => (want_of rfl rfl rfl hh).trans (wFF (by first | rfl | exact decide_eq_false (by omega)))) ?_
  refine ow_yg (y_nil rfl) (fun a w hh => (want_of rfl rfl rfl hh).trans (wFF (by first | rfl | exact decide_eq_false (by omega)))) ?_
  refine ow_yg (y_fld F.fld147_0 rfl) (fun a w hh => (want_of rfl rfl rfl hh).trans (wFF (by first | rfl | exact decide_eq_false (by omega)))) ?_
  refine ow_yg (y_load F.sc145 rfl (by rfl)) (fun a w hh => (want_of rfl rfl rfl hh).trans (wFF (by first | rfl | exact decide_eq_false (by omega)))) ?_
  refine ow_yg (y_len_row F.sl145 rfl aFd) (fun a w hh => (want_of rfl rfl rfl hh).trans (wFF (by first | rfl | exact decide_eq_false (by omega)))) ?_
  refine ow_yg (y_geq rfl rfl) (fun a w hh => (want_of rfl rfl rfl hh).trans (wFF (by first | rfl | exact decide_eq_false (by omega)))) ?_
  refine ow_y (y_pickF rfl (by first | rfl | exact decide_eq_false (by omega)) rfl) ?_
  refine ow_nil ?_
  refine kw_code (fun _ _ h => h) ?_
  refine cw_false rfl (by first | rfl | exact decide_eq_false (by omega)) ?_
  refine cw_skip ?_
  refine kw_finG rfl rfl aSp
theorem check_no (a : Ad) (d : Dk) (at_ : Int) (h : at_ < 0 ∨ (d.l.length : Int) ≤ at_) : Does Tryz.prog 217 #[ptr a.disk, .int .i64 at_] [dkC a d, dkR a d] (fun en L => en = .panicked (faultT fT 6) ∧ L = [dkC a d, dkR a d]) := by
  by_cases h0 : at_ < 0
  · skip
    refine does_enter Tryz.func217 rfl Tryz.ntmps217 rfl (fun R w0 => ?_)
    simp only [envOf, List.cons_append, List.nil_append]
    refine cw_seq ?_
    refine cw_region ?_
    refine ow_y (y_move rfl) ?_
    refine ow_y (y_lss rfl rfl) ?_
    refine ow_y (y_move rfl) ?_
    refine ow_skip rfl (fun a w hh => (want_of rfl rfl rfl hh).trans (wFT (by first | rfl | exact decide_eq_true (by omega)))) ?_
    refine ow_skip rfl (fun a w hh => (want_of rfl rfl rfl hh).trans (wFT (by first | rfl | exact decide_eq_true (by omega)))) ?_
    refine ow_skip rfl (fun a w hh => (want_of rfl rfl rfl hh).trans (wFT (by first | rfl | exact decide_eq_true (by omega)))) ?_
    refine ow_skip rfl (fun a w hh => (want_of rfl rfl rfl hh).trans (wFT (by first | rfl | exact decide_eq_true (by omega)))) ?_
    refine ow_skip rfl (fun a w hh => (want_of rfl rfl rfl hh).trans (wFT (by first | rfl | exact decide_eq_true (by omega)))) ?_
    refine ow_skip rfl (fun a w hh => (want_of rfl rfl rfl hh).trans (wFT (by first | rfl | exact decide_eq_true (by omega)))) ?_
    refine ow_skip rfl (fun a w hh => (want_of rfl rfl rfl hh).trans (wFT (by first | rfl | exact decide_eq_true (by omega)))) ?_
    refine ow_y (y_pickT rfl (by first | rfl | exact decide_eq_true (by omega)) rfl) ?_
    refine ow_nil ?_
    refine kw_code (fun _ _ h => h) ?_
    refine cw_true rfl (by first | rfl | exact decide_eq_true (by omega)) ?_
    refine cw_region ?_
    refine ow_fails rfl F.hb29 rfl (fail_spec 6) aSp ?_
    simp only [List.cons_append, List.nil_append]
    repeat (first | with_reducible refine kw_inBlock_panic ?_ | with_reducible refine kw_then_panic ?_)
    refine kw_panic (fun _ _ h => h) (Split.back aSp) ⟨rfl, rfl⟩
  · skip
    refine does_enter Tryz.func217 rfl Tryz.ntmps217 rfl (fun R w0 => ?_)
    simp only [envOf, List.cons_append, List.nil_append]
    refine cw_seq ?_
    refine cw_region ?_
    refine ow_y (y_move rfl) ?_
    refine ow_y (y_lss rfl rfl) ?_
    refine ow_y (y_move rfl) ?_
    refine ow_yg (y_move rfl) (fun a w hh => (want_of rfl rfl rfl hh).trans (wFF (by first | rfl | exact decide_eq_false (by omega)))) ?_
    refine ow_yg (y_move rfl) (fun a w hh => (want_of rfl rfl rfl hh).trans (wFF (by first | rfl | exact decide_eq_false (by omega)))) ?_
    refine ow_yg (y_nil rfl) (fun a w hh => (want_of rfl rfl rfl hh).trans (wFF (by first | rfl | exact decide_eq_false (by omega)))) ?_
    refine ow_yg (y_fld F.fld147_0 rfl) (fun a w hh => (want_of rfl rfl rfl hh).trans (wFF (by first | rfl | exact decide_eq_false (by omega)))) ?_
    refine ow_yg (y_load F.sc145 rfl (by rfl)) (fun a w hh => (want_of rfl rfl rfl hh).trans (wFF (by first | rfl | exact decide_eq_false (by omega)))) ?_
    refine ow_yg (y_len_row F.sl145 rfl aFd) (fun a w hh => (want_of rfl rfl rfl hh).trans (wFF (by first | rfl | exact decide_eq_false (by omega)))) ?_
    refine ow_yg (y_geq rfl rfl) (fun a w hh => (want_of rfl rfl rfl hh).trans (wFF (by first | rfl | exact decide_eq_false (by omega)))) ?_
    refine ow_y (y_pickF rfl (by first | rfl | exact decide_eq_false (by omega)) rfl) ?_
    refine ow_nil ?_
    refine kw_code (fun _ _ h => h) ?_
    refine cw_true rfl (by first | rfl | exact decide_eq_true (by omega)) ?_
    refine cw_region ?_
    refine ow_fails rfl F.hb29 rfl (fail_spec 6) aSp ?_
    simp only [List.cons_append, List.nil_append]
    repeat (first | with_reducible refine kw_inBlock_panic ?_ | with_reducible refine kw_then_panic ?_)
    refine kw_panic (fun _ _ h => h) (Split.back aSp) ⟨rfl, rfl⟩
theorem spend_spec (a : Ad) (d : Dk) (hl : d.left < 4611686018427387904) : Does Tryz.prog 262 #[ptr a.disk] [dkC a d] (Ran fT (fun d => [dkC a d]) unitV (dspend d)) := by
  by_cases h1 : d.dead = true
  · have e : dspend d = (.err 12, d) := by simp [dspend, h1]
    rw [e]
    refine does_enter Tryz.func262 rfl Tryz.ntmps262 rfl (fun R w0 => ?_)
    simp only [envOf, List.cons_append, List.nil_append]
    refine cw_seq ?_
    refine cw_region ?_
    refine ow_y (y_move rfl) ?_
    refine ow_fails rfl F.hb216 rfl (alive_no a d h1) aSp ?_
    simp only [List.cons_append, List.nil_append]
    repeat (first | with_reducible refine kw_inBlock_panic ?_ | with_reducible refine kw_then_panic ?_)
    refine kw_panic (fun _ _ h => h) (Split.back aSp) ⟨rfl, rfl⟩
  · have h1' : d.dead = false := by simpa using h1
    by_cases h2 : d.armed = false
    · have e : dspend d = (.ok (), d) := by simp [dspend, h1', h2]
      rw [e]
      refine does_enter Tryz.func262 rfl Tryz.ntmps262 rfl (fun R w0 => ?_)
      simp only [envOf, List.cons_append, List.nil_append]
      refine cw_seq ?_
      refine cw_region ?_
      refine ow_y (y_move rfl) ?_
      refine ow_gives rfl F.hb216 rfl (alive_ok a d h1') aSp ?_
      try simp only [List.cons_append, List.nil_append]
      refine ow_nil ?_
      refine kw_code (fun _ _ h => h) ?_
      refine cw_seq ?_
      refine cw_seq ?_
      refine cw_region ?_
      refine ow_y (y_move rfl) ?_
      refine ow_y (y_nil rfl) ?_
      refine ow_y (y_fld F.fld147_1 rfl) ?_
      refine ow_y (y_load F.sc4 rfl (by rfl)) ?_
      refine ow_y (y_not rfl) ?_
      refine ow_nil ?_
      refine kw_code (fun _ _ h => h) ?_
      refine cw_true rfl (by rw [h2]; rfl) ?_
      refine cw_retR rfl (fun _ _ h => h) rfl rfl aSp
    · have h2' : d.armed = true := by simpa using h2
      cases h3 : d.left with
      | zero =>
        have e : dspend d = (.err 12, { d with dead := true }) := by simp [dspend, h1', h2', h3]
        rw [e]
        refine does_enter Tryz.func262 rfl Tryz.ntmps262 rfl (fun R w0 => ?_)
        simp only [envOf, List.cons_append, List.nil_append]
        refine cw_seq ?_
        refine cw_region ?_
        refine ow_y (y_move rfl) ?_
        refine ow_gives rfl F.hb216 rfl (alive_ok a d h1') aSp ?_
        try simp only [List.cons_append, List.nil_append]
        refine ow_nil ?_
        refine kw_code (fun _ _ h => h) ?_
        refine cw_seq ?_
        refine cw_seq ?_
        refine cw_region ?_
        refine ow_y (y_move rfl) ?_
        refine ow_y (y_nil rfl) ?_
        refine ow_y (y_fld F.fld147_1 rfl) ?_
        refine ow_y (y_load F.sc4 rfl (by rfl)) ?_
        refine ow_y (y_not rfl) ?_
        refine ow_nil ?_
        refine kw_code (fun _ _ h => h) ?_
        refine cw_false rfl (by rw [h2']; rfl) ?_
        refine cw_skip ?_
        refine kw_code (fun _ _ h => h) ?_
        refine cw_seq ?_
        refine cw_seq ?_
        refine cw_region ?_
        refine ow_y (y_move rfl) ?_
        refine ow_y (y_nil rfl) ?_
        refine ow_y (y_fld F.fld147_2 rfl) ?_
        refine ow_y (y_load F.sc3 rfl (by rfl)) ?_
        refine ow_y (y_eql rfl rfl) ?_
        refine ow_nil ?_
        refine kw_code (fun _ _ h => h) ?_
        refine cw_true rfl (by rw [h3]; rfl) ?_
        refine cw_seq ?_
        refine cw_region ?_
        refine ow_y (y_move rfl) ?_
        refine ow_y (y_nil rfl) ?_
        refine ow_y (y_fld F.fld147_3 rfl) ?_
        refine (ow_store F.sz4 rfl rfl (by first | rfl | assumption) (by rfl) (by (try simp only [List.set_cons_zero, List.set_cons_succ, Nat.reduceAdd, Nat.reduceMul, Int.reduceToNat, Nat.zero_add, Nat.add_zero]); rfl) ?_)
        refine ow_nil ?_
        refine kw_code (fun _ _ h => h) ?_
        refine cw_region ?_
        refine ow_fails rfl F.hb29 rfl (fail_spec 12) aSp ?_
        simp only [List.cons_append, List.nil_append]
        repeat (first | with_reducible refine kw_inBlock_panic ?_ | with_reducible refine kw_then_panic ?_)
        refine kw_panic (fun _ _ h => h) (Split.back aSp) ⟨rfl, rfl⟩
      | succ n =>
        have e : dspend d = (.ok (), { d with left := n }) := by simp [dspend, h1', h2', h3]
        rw [e]
        refine does_enter Tryz.func262 rfl Tryz.ntmps262 rfl (fun R w0 => ?_)
        simp only [envOf, List.cons_append, List.nil_append]
        refine cw_seq ?_
        refine cw_region ?_
        refine ow_y (y_move rfl) ?_
        refine ow_gives rfl F.hb216 rfl (alive_ok a d h1') aSp ?_
        try simp only [List.cons_append, List.nil_append]
        refine ow_nil ?_
        refine kw_code (fun _ _ h => h) ?_
        refine cw_seq ?_
        refine cw_seq ?_
        refine cw_region ?_
        refine ow_y (y_move rfl) ?_
        refine ow_y (y_nil rfl) ?_
        refine ow_y (y_fld F.fld147_1 rfl) ?_
        refine ow_y (y_load F.sc4 rfl (by rfl)) ?_
        refine ow_y (y_not rfl) ?_
        refine ow_nil ?_
        refine kw_code (fun _ _ h => h) ?_
        refine cw_false rfl (by rw [h2']; rfl) ?_
        refine cw_skip ?_
        refine kw_code (fun _ _ h => h) ?_
        refine cw_seq ?_
        refine cw_seq ?_
        refine cw_region ?_
        refine ow_y (y_move rfl) ?_
        refine ow_y (y_nil rfl) ?_
        refine ow_y (y_fld F.fld147_2 rfl) ?_
        refine ow_y (y_load F.sc3 rfl (by rfl)) ?_
        refine ow_y (y_eql rfl rfl) ?_
        refine ow_nil ?_
        refine kw_code (fun _ _ h => h) ?_
        refine cw_false rfl (by rw [h3]; exact decide_eq_false (by omega)) ?_
        refine cw_skip ?_
        refine kw_code (fun _ _ h => h) ?_
        refine cw_region ?_
        refine ow_y (y_move rfl) ?_
        refine ow_y (y_nil rfl) ?_
        refine ow_y (y_fld F.fld147_2 rfl) ?_
        refine ow_y (y_load F.sc3 rfl (by rfl)) ?_
        refine ow_y (y_subI rfl rfl (by omega)) ?_
        refine ow_y (y_nil rfl) ?_
        refine ow_y (y_fld F.fld147_2 rfl) ?_
        refine (ow_store F.sz3 rfl rfl (by first | rfl | assumption) (by rfl) (by (try simp only [List.set_cons_zero, List.set_cons_succ, Nat.reduceAdd, Nat.reduceMul, Int.reduceToNat, Nat.zero_add, Nat.add_zero]); rfl) ?_)
        refine ow_nil ?_
        rw [show ((d.left : Nat) : Int) - 1 = ((n : Nat) : Int) by omega]
        refine kw_finR rfl rfl rfl aSp
end Go.Proofs.YthlclfdnhnnebaaGreatDoor
end
section
set_option maxRecDepth 4000
set_option maxHeartbeats 4000000
namespace Go.Proofs.YthlclfdnhnnebaaGreatDoor
open Go.Sl Go.Sb
abbrev strV (s : B) : Value := .string (bs s)
theorem sec_at {l : List (B × B)} {i : Nat} {x : B × B} (h : l[i]? = some x) : nth (l.flatMap secV) (2 * i) = some (strV x.1) ∧ nth (l.flatMap secV) (2 * i + 1) = some (strV x.2) := by
  induction l generalizing i with
  | nil => simp at h
  | cons y l ih =>
    cases i with
    | zero => simp at h; subst h; exact ⟨rfl, rfl⟩
    | succ i =>
      have := ih (i := i) (by simpa using h)
      simp only [List.flatMap_cons]
      exact this
theorem sec_len (l : List (B × B)) : (l.flatMap secV).length = l.length * 2 := by
  induction l with
  | nil => rfl
  | cons x l ih => simp only [List.flatMap_cons, List.length_append, ih, List.length_cons, secV]; simp; omega
theorem sec_set (l : List (B × B)) (i : Nat) (x : B × B) (v : B) (h : l[i]? = some x) : (l.flatMap secV).set (2 * i + 1) (strV v) = (l.set i (x.1, v)).flatMap secV := by
  induction l generalizing i with
  | nil => simp at h
  | cons y l ih =>
    cases i with
    | zero => simp at h; subst h; rfl
    | succ i =>
      have := ih i (by simpa using h)
      simp only [List.flatMap_cons, List.set_cons_succ]
      show _ = secV y ++ _
      rw [← this]
      rfl
theorem at_ok {d : Dk} {at_ : Int} (h : ¬ (at_ < 0 ∨ (d.l.length : Int) ≤ at_)) : d.l[at_.toNat]? = some (d.l.getD at_.toNat ([], [])) := by
  have : at_.toNat < d.l.length := by omega
  simp [List.getD_eq_getElem?_getD, List.getElem?_eq_getElem this]
theorem read_spec2 (a : Ad) (d : Dk) (at_ : Int) : Does Tryz.prog 181 #[ptr a.disk, .int .i64 at_] [dkC a d, dkR a d] (Ran fT (fun _ => [dkC a d, dkR a d]) strV (dread d at_, d)) := by
  by_cases h1 : d.dead = true
  · have e : dread d at_ = .err 12 := by simp [dread, h1]
    rw [e]
    refine does_enter Tryz.func181 rfl Tryz.ntmps181 rfl (fun R w0 => ?_)
    simp only [envOf, List.cons_append, List.nil_append]
    refine cw_seq ?_
    refine cw_region ?_
    refine ow_y (y_assign rfl) ?_
    refine ow_nil ?_
    refine kw_code (fun _ _ h => h) ?_
    refine cw_seq ?_
    refine cw_region ?_
    refine ow_y (y_move rfl) ?_
    refine ow_fails rfl F.hb216 rfl (alive_no a d h1) aSp ?_
    simp only [List.cons_append, List.nil_append]
    repeat (first | with_reducible refine kw_inBlock_panic ?_ | with_reducible refine kw_then_panic ?_)
    refine kw_panic (fun _ _ h => h) (Split.back aSp) ⟨rfl, rfl⟩
  · have h1' : d.dead = false := by simpa using h1
    by_cases h2 : at_ < 0 ∨ (d.l.length : Int) ≤ at_
    · have e : dread d at_ = .err 6 := by simp [dread, h1', h2]
      rw [e]
      refine does_enter Tryz.func181 rfl Tryz.ntmps181 rfl (fun R w0 => ?_)
      simp only [envOf, List.cons_append, List.nil_append]
      refine cw_seq ?_
      refine cw_region ?_
      refine ow_y (y_assign rfl) ?_
      refine ow_nil ?_
      refine kw_code (fun _ _ h => h) ?_
      refine cw_seq ?_
      refine cw_region ?_
      refine ow_y (y_move rfl) ?_
      refine ow_gives rfl F.hb216 rfl (alive_ok a d h1') aSp ?_
      try simp only [List.cons_append, List.nil_append]
      refine ow_nil ?_
      refine kw_code (fun _ _ h => h) ?_
      refine cw_seq ?_
      refine cw_region ?_
      refine ow_y (y_move rfl) ?_
      refine ow_y (y_move rfl) ?_
      refine ow_fails rfl F.hb217 rfl (check_no a d at_ h2) aSp ?_
      simp only [List.cons_append, List.nil_append]
      repeat (first | with_reducible refine kw_inBlock_panic ?_ | with_reducible refine kw_then_panic ?_)
      refine kw_panic (fun _ _ h => h) (Split.back aSp) ⟨rfl, rfl⟩
    · have e : dread d at_ = .ok (d.l.getD at_.toNat ([], [])).2 := by simp [dread, h1', h2]
      have hat := sec_at (at_ok h2)
      rw [e]
      refine does_enter Tryz.func181 rfl Tryz.ntmps181 rfl (fun R w0 => ?_)
      simp only [envOf, List.cons_append, List.nil_append]
      refine cw_rowany aFd fun p cap hv hcap hl => ?_
      refine cw_seq ?_
      refine cw_region ?_
      refine ow_y (y_assign rfl) ?_
      refine ow_nil ?_
      refine kw_code (fun _ _ h => h) ?_
      refine cw_seq ?_
      refine cw_region ?_
      refine ow_y (y_move rfl) ?_
      refine ow_gives rfl F.hb216 rfl (alive_ok a d h1') aSp ?_
      try simp only [List.cons_append, List.nil_append]
      refine ow_nil ?_
      refine kw_code (fun _ _ h => h) ?_
      refine cw_seq ?_
      refine cw_region ?_
      refine ow_y (y_move rfl) ?_
      refine ow_y (y_move rfl) ?_
      refine ow_gives rfl F.hb217 rfl (check_ok a d at_ h2) aSp ?_
      try simp only [List.cons_append, List.nil_append]
      refine ow_nil ?_
      refine kw_code (fun _ _ h => h) ?_
      refine cw_seq ?_
      refine cw_rowv aFd (by omega) fun b cap hv' hcap => ?_
      simp only [dkC, dkR]
      rw [hv']
      refine cw_region ?_
      refine ow_y (y_move rfl) ?_
      refine ow_y (y_nil rfl) ?_
      refine ow_y (y_fld F.fld147_0 rfl) ?_
      refine ow_y (y_load F.sc145 rfl (by rfl)) ?_
      refine ow_y (y_move rfl) ?_
      refine ow_y (y_ixs F.sl145 rfl rfl (by omega)) ?_
      refine ow_y (y_fld F.fld149_1 rfl) ?_
      refine ow_y (y_loadRow F.sc9 rfl aFd (by rw [show 0 + at_.toNat * 2 + 1 = 2 * at_.toNat + 1 by omega]; exact hat.2)) ?_
      refine ow_y (y_assign rfl) ?_
      refine ow_nil ?_
      refine kw_code (fun _ _ h => h) ?_
      rw [← hv']
      refine cw_retR rfl (fun _ _ h => h) rfl rfl aSp
end Go.Proofs.YthlclfdnhnnebaaGreatDoor
end
section
namespace Go.Proofs.YthlclfdnhnnebaaGreatDoor
open Go
end Go.Proofs.YthlclfdnhnnebaaGreatDoor
end
section
set_option maxRecDepth 4000
set_option maxHeartbeats 4000000
namespace Go.Proofs.YthlclfdnhnnebaaGreatDoor
open Go.Sl Go.Sb
end Go.Proofs.YthlclfdnhnnebaaGreatDoor
end
section
set_option maxRecDepth 4000
set_option maxHeartbeats 4000000
namespace Go.Proofs.YthlclfdnhnnebaaGreatDoor
open Go.Sl Go.Sb
theorem openTT {a : Ad} {by_ : Nat} {gv : Value} {gc : List (Nat × Obj)} {s : St} : TT a by_ gv gc s = [heapC a by_ gv s.keep, star (cellsP gc), mapP by_ intV intV s.young, mapP a.refs intV intV s.refs, mapP a.ix sumV intV s.index, mapP a.vols u32V entA s.vols, coreC a s.next s.epoch,
  pts a.gr (.cells (gcells s.fr a.grl s.g).toArray 198 (0, 0)), pts a.grl (.cells (s.g.map gst).toArray 3 (0, 0))] := rfl
theorem hfree_spec (a : Ad) (s : St) : Does Tryz.prog 78 #[ptr a.heap] [HL a s] (Gives (.int .i64 (freeN s)) [HL a s]) := by
  refine does_enter Tryz.func78 rfl Tryz.ntmps78 rfl (fun R w0 => ?_)
  simp only [envOf, List.cons_append, List.nil_append]
  refine cw_hl aFd fun by_ gv gc o hg hok => ?_
  simp only [openTT, hcells, List.cons_append, List.nil_append]
  refine cw_seq ?_
  refine cw_region ?_
  refine ow_y (y_assign rfl) ?_
  refine ow_nil ?_
  refine kw_code (fun _ _ h => h) ?_
  refine cw_seq ?_
  refine cw_region ?_
  refine ow_y (y_move rfl) ?_
  refine ow_y (y_nil rfl) ?_
  refine ow_y (y_fld F.fld144_2 rfl) ?_
  refine ow_y (y_load F.sc140 rfl (by rfl)) ?_
  refine ow_gives rfl F.hb124 rfl (gFree_spec a.gr a.grl s.fr s.g) aSp ?_
  try simp only [List.cons_append, List.nil_append]
  refine ow_y (y_assign rfl) ?_
  refine ow_nil ?_
  refine kw_code (fun _ _ h => h) ?_
  refine cw_said (sat_hl hg hok aSp) (cw_retG (fun _ _ h => h) rfl rfl aSp)
theorem deep_spec (a : Ad) (s : St) : Does Tryz.prog 82 #[ptr a.log] [HL a s] (Gives (.int .i64 s.depth) [HL a s]) := by
  refine does_enter Tryz.func82 rfl Tryz.ntmps82 rfl (fun R w0 => ?_)
  simp only [envOf, List.cons_append, List.nil_append]
  refine cw_hl aFd fun by_ gv gc o hg hok => ?_
  refine cw_log aFd fun v vals hlk hdp hv1 => ?_
  refine cw_seq ?_
  refine cw_region ?_
  refine ow_y (y_assign rfl) ?_
  refine ow_nil ?_
  refine kw_code (fun _ _ h => h) ?_
  refine cw_seq ?_
  refine cw_region ?_
  refine ow_y (y_move rfl) ?_
  refine ow_y (y_nil rfl) ?_
  refine ow_y (y_fld F.fld139_1 rfl) ?_
  refine ow_y (y_load F.sc3 rfl (by rfl)) ?_
  refine ow_y (y_assign rfl) ?_
  refine ow_nil ?_
  refine kw_code (fun _ _ h => h) ?_
  refine cw_said (sat_log hlk hdp aSp) (cw_said (sat_hl hg hok aSp) (cw_retG (fun _ _ h => h) rfl rfl aSp))
theorem hget_spec (W : World) (a : Ad) (s : St) (at_ : Int) : Does Tryz.prog 136 #[ptr a.heap, .int .i64 at_] (RS W a s) (Ran fT (RS W a) strV (hget at_ s)) := by
  by_cases h0 : refsOf s at_ = 0
  · have e : hget at_ s = (.err 6, s) := by simp [hget, h0]
    rw [e]
    have h0' : (mget at_ s.refs).getD 0 = 0 := h0
    refine does_enter Tryz.func136 rfl Tryz.ntmps136 rfl (fun R w0 => ?_)
    simp only [envOf, List.cons_append, List.nil_append]
    refine cw_hl aFd fun by_ gv gc o hg hok => ?_
    simp only [openTT, hcells, List.cons_append, List.nil_append]
    refine cw_seq ?_
    refine cw_region ?_
    refine ow_y (y_assign rfl) ?_
    refine ow_nil ?_
    refine kw_code (fun _ _ h => h) ?_
    refine cw_seq ?_
    refine cw_seq ?_
    refine cw_region ?_
    refine ow_y (y_move rfl) ?_
    refine ow_y (y_nil rfl) ?_
    refine ow_y (y_fld F.fld144_3 rfl) ?_
    refine ow_y (y_load F.sc142 rfl (by rfl)) ?_
    refine ow_y (y_move rfl) ?_
    refine ow_y (y_look1 (ek := intV) (ev := intV) F.mp142 keyI (tt fun _ => trivial) trivial F.z3 rfl rfl aFd getInt) ?_
    refine ow_y (y_eql rfl rfl) ?_
    refine ow_nil ?_
    refine kw_code (fun _ _ h => h) ?_
    refine cw_true rfl (decide_eq_true h0') ?_
    refine cw_region ?_
    refine ow_fails rfl F.hb29 rfl (fail_spec 6) aSp ?_
    simp only [List.cons_append, List.nil_append]
    repeat (first | with_reducible refine kw_inBlock_panic ?_ | with_reducible refine kw_then_panic ?_)
    refine kw_said (sat_hl hg hok aSp) (kw_panic (fun _ _ h => h) (Split.back aSp) ⟨rfl, rfl⟩)
  · have e : hget at_ s = (dread s.d at_, s) := by simp [hget, h0]
    have h0' : ¬ (mget at_ s.refs).getD 0 = 0 := h0
    rw [e]
    have hr := read_spec2 a s.d at_
    cases hd : dread s.d at_ with
    | big => simp [dread] at hd; split at hd <;> (try split at hd) <;> cases hd
    | ok b =>
      rw [hd] at hr
      refine does_enter Tryz.func136 rfl Tryz.ntmps136 rfl (fun R w0 => ?_)
      simp only [envOf, List.cons_append, List.nil_append]
      refine cw_hl aFd fun by_ gv gc o hg hok => ?_
      simp only [openTT, hcells, List.cons_append, List.nil_append]
      refine cw_seq ?_
      refine cw_region ?_
      refine ow_y (y_assign rfl) ?_
      refine ow_nil ?_
      refine kw_code (fun _ _ h => h) ?_
      refine cw_seq ?_
      refine cw_seq ?_
      refine cw_region ?_
      refine ow_y (y_move rfl) ?_
      refine ow_y (y_nil rfl) ?_
      refine ow_y (y_fld F.fld144_3 rfl) ?_
      refine ow_y (y_load F.sc142 rfl (by rfl)) ?_
      refine ow_y (y_move rfl) ?_
      refine ow_y (y_look1 (ek := intV) (ev := intV) F.mp142 keyI (tt fun _ => trivial) trivial F.z3 rfl rfl aFd getInt) ?_
      refine ow_y (y_eql rfl rfl) ?_
      refine ow_nil ?_
      refine kw_code (fun _ _ h => h) ?_
      refine cw_false rfl (decide_eq_false h0') ?_
      refine cw_skip ?_
      refine kw_code (fun _ _ h => h) ?_
      refine cw_seq ?_
      refine cw_region ?_
      refine ow_y (y_move rfl) ?_
      refine ow_y (y_nil rfl) ?_
      refine ow_y (y_fld F.fld144_0 rfl) ?_
      refine ow_y (y_load F.sc64 rfl (by rfl)) ?_
      refine ow_y (y_move rfl) ?_
      refine ow_gives rfl F.hb181 rfl (hr.ran_ok) aSp ?_
      try simp only [List.cons_append, List.nil_append]
      refine ow_y (y_assign rfl) ?_
      refine ow_nil ?_
      refine kw_code (fun _ _ h => h) ?_
      refine cw_said (sat_hl hg hok aSp) (cw_retR rfl (fun _ _ h => h) rfl rfl aSp)
    | err e' =>
      rw [hd] at hr
      refine does_enter Tryz.func136 rfl Tryz.ntmps136 rfl (fun R w0 => ?_)
      simp only [envOf, List.cons_append, List.nil_append]
      refine cw_hl aFd fun by_ gv gc o hg hok => ?_
      simp only [openTT, hcells, List.cons_append, List.nil_append]
      refine cw_seq ?_
      refine cw_region ?_
      refine ow_y (y_assign rfl) ?_
      refine ow_nil ?_
      refine kw_code (fun _ _ h => h) ?_
      refine cw_seq ?_
      refine cw_seq ?_
      refine cw_region ?_
      refine ow_y (y_move rfl) ?_
      refine ow_y (y_nil rfl) ?_
      refine ow_y (y_fld F.fld144_3 rfl) ?_
      refine ow_y (y_load F.sc142 rfl (by rfl)) ?_
      refine ow_y (y_move rfl) ?_
      refine ow_y (y_look1 (ek := intV) (ev := intV) F.mp142 keyI (tt fun _ => trivial) trivial F.z3 rfl rfl aFd getInt) ?_
      refine ow_y (y_eql rfl rfl) ?_
      refine ow_nil ?_
      refine kw_code (fun _ _ h => h) ?_
      refine cw_false rfl (decide_eq_false h0') ?_
      refine cw_skip ?_
      refine kw_code (fun _ _ h => h) ?_
      refine cw_seq ?_
      refine cw_region ?_
      refine ow_y (y_move rfl) ?_
      refine ow_y (y_nil rfl) ?_
      refine ow_y (y_fld F.fld144_0 rfl) ?_
      refine ow_y (y_load F.sc64 rfl (by rfl)) ?_
      refine ow_y (y_move rfl) ?_
      refine ow_fails rfl F.hb181 rfl (hr) aSp ?_
      simp only [List.cons_append, List.nil_append]
      repeat (first | with_reducible refine kw_inBlock_panic ?_ | with_reducible refine kw_then_panic ?_)
      refine kw_said (sat_hl hg hok aSp) (kw_panic (fun _ _ h => h) (Split.back aSp) ⟨rfl, rfl⟩)
end Go.Proofs.YthlclfdnhnnebaaGreatDoor
end
section
set_option maxRecDepth 4000
set_option maxHeartbeats 4000000
namespace Go.Proofs.YthlclfdnhnnebaaGreatDoor
open Go.Sl Go.Sb
theorem wrap_i64' (x : Int) : IntKind.i64.wrap x = wrap64 x := by rw [IntKind.wrap_i64]; rfl
theorem putRefs_big {s : St} {k v : Int} (h : (putRefs k v s).1 ≠ .big) : s.log.length < 1000000000 := by
  rcases Nat.lt_or_ge s.log.length 1000000000 with h' | h'
  · exact h'
  · exact (h (by simp [putRefs, andThen, back, h'])).elim
theorem putRefs_eq {s : St} (k v : Int) (h : s.log.length < 1000000000) : putRefs k v s = (.ok (), { s with log := bk s.depth s.log (.refs k (mget k s.refs)), refs := mput k v s.refs }) := by
  simp [putRefs, andThen, back, show ¬ 1000000000 ≤ s.log.length by omega]
theorem putYoung_eq {s : St} (k v : Int) (h : s.log.length < 1000000000) : putYoung k v s = (.ok (), { s with log := bk s.depth s.log (.young k (mget k s.young)), young := mput k v s.young }) := by
  simp [putYoung, andThen, back, show ¬ 1000000000 ≤ s.log.length by omega]
theorem setKeep_eq {s : St} (v : Int) (h : s.log.length < 1000000000) : setKeep v s = (.ok (), { s with log := bk s.depth s.log (.keep s.keep), keep := v }) := by
  simp [setKeep, andThen, back, show ¬ 1000000000 ≤ s.log.length by omega]
theorem room_of {s : St} {α : Type} {o : Out α × St} (h : o.1 ≠ .big) (hb : 1000000000 ≤ s.log.length → o.1 = .big) : s.log.length < 1000000000 := by
  rcases Nat.lt_or_ge s.log.length 1000000000 with h' | h'
  · exact h'
  · exact (h (hb h')).elim
theorem hmore_spec (W : World) (a : Ad) (s : St) (at_ : Int) (hnb : (hmore at_ s).1 ≠ .big) : Does Tryz.prog 175 #[ptr a.heap, .int .i64 at_] (RS W a s) (Ran fT (RS W a) unitV (hmore at_ s)) := by
  by_cases h0 : refsOf s at_ = 0
  · have e : hmore at_ s = (.err 6, s) := by simp [hmore, h0]
    rw [e]
    have h0' : (mget at_ s.refs).getD 0 = 0 := h0
    refine does_enter Tryz.func175 rfl Tryz.ntmps175 rfl (fun R w0 => ?_)
    simp only [envOf, List.cons_append, List.nil_append]
    refine cw_hl aFd fun by_ gv gc o hg hok => ?_
    simp only [openTT, hcells, List.cons_append, List.nil_append]
    refine cw_seq ?_
    refine cw_seq ?_
    refine cw_region ?_
    refine ow_y (y_move rfl) ?_
    refine ow_y (y_nil rfl) ?_
    refine ow_y (y_fld F.fld144_3 rfl) ?_
    refine ow_y (y_load F.sc142 rfl (by rfl)) ?_
    refine ow_y (y_move rfl) ?_
    refine ow_y (y_look1 (ek := intV) (ev := intV) F.mp142 keyI (tt fun _ => trivial) trivial F.z3 rfl rfl aFd getInt) ?_
    refine ow_y (y_eql rfl rfl) ?_
    refine ow_nil ?_
    refine kw_code (fun _ _ h => h) ?_
    refine cw_true rfl (decide_eq_true h0') ?_
    refine cw_region ?_
    refine ow_fails rfl F.hb29 rfl (fail_spec 6) aSp ?_
    simp only [List.cons_append, List.nil_append]
    repeat (first | with_reducible refine kw_inBlock_panic ?_ | with_reducible refine kw_then_panic ?_)
    refine kw_said (sat_hl hg hok aSp) (kw_panic (fun _ _ h => h) (Split.back aSp) ⟨rfl, rfl⟩)
  · have e1 : hmore at_ s = putRefs at_ (wrap64 (refsOf s at_ + 1)) s := by simp [hmore, h0]
    rw [e1] at hnb
    have hn := putRefs_big hnb
    rw [putRefs_eq _ _ hn] at e1
    rw [e1]
    have h0' : ¬ (mget at_ s.refs).getD 0 = 0 := h0
    refine does_enter Tryz.func175 rfl Tryz.ntmps175 rfl (fun R w0 => ?_)
    simp only [envOf, List.cons_append, List.nil_append]
    refine cw_hl aFd fun by_ gv gc o hg hok => ?_
    simp only [openTT, hcells, List.cons_append, List.nil_append]
    refine cw_seq ?_
    refine cw_seq ?_
    refine cw_region ?_
    refine ow_y (y_move rfl) ?_
    refine ow_y (y_nil rfl) ?_
    refine ow_y (y_fld F.fld144_3 rfl) ?_
    refine ow_y (y_load F.sc142 rfl (by rfl)) ?_
    refine ow_y (y_move rfl) ?_
    refine ow_y (y_look1 (ek := intV) (ev := intV) F.mp142 keyI (tt fun _ => trivial) trivial F.z3 rfl rfl aFd getInt) ?_
    refine ow_y (y_eql rfl rfl) ?_
    refine ow_nil ?_
    refine kw_code (fun _ _ h => h) ?_
    refine cw_false rfl (decide_eq_false h0') ?_
    refine cw_skip ?_
    refine kw_code (fun _ _ h => h) ?_
    refine cw_tail 16 F.fol (by kernel_rfl) ?_
    simp only [List.take_succ_cons, List.take_zero, List.drop_succ_cons, List.drop_zero]
    refine os_y (y_move rfl) ?_
    refine os_y (y_nil rfl) ?_
    refine os_y (y_fld F.fld144_1 rfl) ?_
    refine os_y (y_load F.sc136 rfl (by rfl)) ?_
    refine os_y (y_move rfl) ?_
    refine os_y (y_nil rfl) ?_
    refine os_y (y_fld F.fld144_3 rfl) ?_
    refine os_y (y_load F.sc142 rfl (by rfl)) ?_
    refine os_y (y_move rfl) ?_
    refine os_y (y_move rfl) ?_
    refine os_y (y_nil rfl) ?_
    refine os_y (y_fld F.fld144_3 rfl) ?_
    refine os_y (y_load F.sc142 rfl (by rfl)) ?_
    refine os_y (y_move rfl) ?_
    refine os_y (y_look1 (ek := intV) (ev := intV) F.mp142 keyI (tt fun _ => trivial) trivial F.z3 rfl rfl aFd getInt) ?_
    refine os_y (y_add rfl rfl) ?_
    refine os_nil ?_
    rw [wrap_i64']
    refine ow_givesE rfl F.hb206 rfl (putInt_spec a by_ o s.log s.depth a.refs s.refs at_ (wrap64 (refsOf s at_ + 1)) (.refs at_ (mget at_ s.refs)) hn (fun _ _ _ _ => ⟨_, _, _, _, .inl rfl, rfl⟩)) aSp ?_
    rintro e _
    try simp only [List.cons_append, List.nil_append]
    refine ow_nil ?_
    refine kw_said (sat_hl (s := { s with log := bk s.depth s.log (.refs at_ (mget at_ s.refs)), refs := mput at_ (wrap64 (refsOf s at_ + 1)) s.refs }) hg hok aSp) (kw_finR rfl rfl rfl aSp)
theorem hkeep_spec (W : World) (a : Ad) (s : St) (n : Int) (hnb : (hkeep n s).1 ≠ .big) : Does Tryz.prog 77 #[ptr a.heap, .int .i64 n] (RS W a s) (Ran fT (RS W a) unitV (hkeep n s)) := by
  have hn : s.log.length < 1000000000 := room_of hnb fun h => by simp [hkeep, setKeep, andThen, back, h]
  rw [show hkeep n s = _ from setKeep_eq (max n 0) hn]
  refine does_enter Tryz.func77 rfl Tryz.ntmps77 rfl (fun R w0 => ?_)
  simp only [envOf, List.cons_append, List.nil_append]
  refine cw_hl aFd fun by_ gv gc o hg hok => ?_
  simp only [openTT, hcells, List.cons_append, List.nil_append]
  refine cw_tail 9 F.fol (by kernel_rfl) ?_
  simp only [List.take_succ_cons, List.take_zero, List.drop_succ_cons, List.drop_zero]
  refine os_y (y_move rfl) ?_
  refine os_y (y_nil rfl) ?_
  refine os_y (y_fld F.fld144_1 rfl) ?_
  refine os_y (y_load F.sc136 rfl (by rfl)) ?_
  refine os_y (y_move rfl) ?_
  refine os_y (y_nil rfl) ?_
  refine os_y (y_fld F.fld144_6 rfl) ?_
  refine os_y (y_move rfl) ?_
  refine os_y (y_max rfl rfl) ?_
  refine os_nil ?_
  refine ow_givesE rfl F.hb123 rfl (setInt_spec a by_ o s.log s.depth gv s.keep (max n 0) hn) aSp ?_
  rintro e _
  try simp only [List.cons_append, List.nil_append]
  refine ow_nil ?_
  refine kw_said (sat_hl (s := { s with log := bk s.depth s.log (.keep s.keep), keep := max n 0 }) hg hok aSp) (kw_finR rfl rfl rfl aSp)
end Go.Proofs.YthlclfdnhnnebaaGreatDoor
end
