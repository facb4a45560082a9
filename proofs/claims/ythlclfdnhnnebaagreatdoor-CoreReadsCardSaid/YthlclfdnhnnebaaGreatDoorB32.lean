/- Part of the proof; no statement of its own: A41, A42, A43. -/
import Derived.Test.YthlclfdnhnnebaaGreatDoorB08
import Derived.Test.YthlclfdnhnnebaaGreatDoorB06
import Derived.Test.YthlclfdnhnnebaaGreatDoorB31
set_option linter.all false
section
set_option maxRecDepth 4000
set_option maxHeartbeats 4000000
namespace Go.Proofs.YthlclfdnhnnebaaGreatDoor
open Go.Sl Go.Sb
theorem creads_len : ∀ {k : Nat} {x : Ent} {a n : Nat} {s t : St} {b : B}, creads k x a n s = (.ok b, t) → b.length ≤ 64 * n
  | 0, x, a, n, s, t, b, h => by cases h; simp
  | k + 1, x, a, n, s, t, b, h => by
    unfold creads at h
    split at h
    · cases h; simp
    · rename_i hn
      simp only at h
      cases hg : cget x (a / 4) s with
      | mk o u =>
        cases o with
        | ok v =>
          rw [andThen_ok hg] at h
          cases hg2 : creads k x (a + min n (4 - a % 4)) (n - min n (4 - a % 4)) u with
          | mk o2 u2 =>
            cases o2 with
            | ok r =>
              rw [andThen_ok hg2] at h
              cases h
              have := creads_len hg2
              rw [List.length_append, List.length_take]; omega
            | err e => rw [andThen_err hg2] at h; cases h
            | big => unfold andThen at h; rw [hg2] at h; cases h
        | err e => rw [andThen_err hg] at h; cases h
        | big => unfold andThen at h; rw [hg] at h; cases h
theorem readM_len {id at_ n : Int} {s t : St} {b : B} (h : readM id at_ n s = (.ok b, t)) : b.length ≤ 1000000 := by
  unfold readM at h
  cases hg : find id s with
  | mk o u =>
    cases o with
    | ok x =>
      rw [andThen_ok hg] at h
      cases hg2 : withinB x at_ n u with
      | mk o2 u2 =>
        cases o2 with
        | ok v =>
          rw [andThen_ok hg2] at h
          obtain ⟨_, h2, h3, h4, h5⟩ := withinB_ok hg2
          have := creads_len h
          omega
        | err e => rw [andThen_err hg2] at h; cases h
        | big => unfold andThen at h; rw [hg2] at h; cases h
    | err e => rw [andThen_err hg] at h; cases h
    | big => unfold andThen at h; rw [hg] at h; cases h
theorem cread_ok (W : World) (a : Ad) (s : St) (id at_ n : Int) (hnb : (creadA id at_ n s).1 ≠ .big) :
    Does Tryz.prog 11 #[ptr a.core, .int .u32 id, .int .i64 at_, .int .i64 n] (RS W a s) (Ran fT (RS W a) textV (creadA id at_ n s)) := cread_spec W a s id at_ n readM_len hnb
def low (c : UInt8) : UInt8 := UInt8.ofNat (c.toNat % 4)
def secOf (c : UInt8) : B := List.replicate 64 (low c)
theorem low_eq (c : UInt8) : (c.toNat : Int) % 4 = ((low c).toNat : Int) := by unfold low; rw [UInt8.toNat_ofNat']; omega
theorem secOf_flat (c : UInt8) : (List.replicate 64 [low c]).flatten = secOf c := rfl
def dataL (l : B) : B := (l.take 12).flatMap secOf
theorem dataL_step {l : B} {i : Nat} (h : i < l.length) (h12 : i < 12) : dataL (l.take i) ++ secOf l[i] = dataL (l.take (i + 1)) := by
  unfold dataL
  rw [List.take_of_length_le (l := l.take i) (by simp; omega), List.take_of_length_le (l := l.take (i + 1)) (by simp; omega), List.take_succ, List.getElem?_eq_getElem h, List.flatMap_append]
  simp
theorem dataL_end {l : B} {i : Nat} (h : l.length ≤ i ∨ 12 ≤ i) (h12 : i ≤ 12) : dataL (l.take i) = dataL l := by
  unfold dataL
  rw [List.take_take]
  rcases h with h | h
  · rw [List.take_of_length_le (by omega), List.take_of_length_le (by omega)]
  · rw [show min 12 i = 12 by omega]
theorem secs_len (l : B) : (l.flatMap secOf).length = 64 * l.length := by
  induction l with
  | nil => rfl
  | cons c l ih => rw [List.flatMap_cons, List.length_append, ih]; simp [secOf]; omega
theorem dataL_len (l : B) : (dataL l).length = 64 * min 12 l.length := by unfold dataL; rw [secs_len, List.length_take]
set_option maxRecDepth 4000 in
theorem data_spec (l : B) : Does Tryz.prog 9 #[strV l] [] (Gives (strV (dataL l)) []) := by
  have hsz : (bs l).size = l.length := bs_size l
  refine does_enter Tryz.func9 rfl Tryz.ntmps9 rfl (fun R w0 => ?_)
  simp only [envOf, List.cons_append, List.nil_append]
  refine cw_seq ?_
  refine cw_region ?_
  refine ow_y (y_assign rfl) ?_
  refine ow_nil ?_
  refine kw_code (fun _ _ h => h) ?_
  refine cw_seq ?_
  refine cw_region ?_
  refine ow_y (y_assign rfl) ?_
  refine ow_nil ?_
  refine kw_code (fun _ _ h => h) ?_
  refine cw_seq ?_
  refine cw_seq ?_
  refine cw_region ?_
  refine ow_y (y_assign rfl) ?_
  refine ow_nil ?_
  refine kw_code (fun _ _ h => h) ?_
  refine cw_block ?_
  refine cw_loop (X := {i : Nat // i ≤ 12 ∧ i ≤ l.length}) (fun y => [(0, strV l), (3, strV (dataL (l.take y.1))), (4, .int .i64 y.1)]) (fun y => [R]) (fun y => 12 - y.1) ⟨0, by omega, by omega⟩ (by repeat (first | exact Sub.nil | refine Sub.cons rfl ?_)) aSp ?_
  rintro ⟨i, hi, hil⟩ m0 hm0
  try simp only at hm0
  try dsimp only
  skip
  refine cw_seq ?_
  refine cw_seq ?_
  by_cases hlt : i < l.length
  · skip
    refine cw_region ?_
    refine ow_y (y_move rfl) ?_
    refine ow_y (y_move rfl) ?_
    refine ow_y (y_len_str F.st9 rfl) ?_
    rw [bs_size]
    refine ow_y (y_lss rfl rfl) ?_
    refine ow_y (y_move rfl) ?_
    refine ow_yg (y_move rfl) (fun a w hh => (want_of rfl rfl rfl hh).trans (wTT (by first | rfl | exact decide_eq_true (by omega)))) ?_
    refine ow_yg (y_lss rfl rfl) (fun a w hh => (want_of rfl rfl rfl hh).trans (wTT (by first | rfl | exact decide_eq_true (by omega)))) ?_
    refine ow_y (y_pickT rfl (by first | rfl | exact decide_eq_true (by omega)) rfl) ?_
    refine ow_nil ?_
    refine kw_code (fun _ _ h => h) ?_
    refine cw_if rfl (fun hb12 => ?_) (fun hb12 => ?_)
    · skip
      have hi12 : i < 12 := by have := of_decide_eq_true hb12; omega
      have hbyte : (bs l).data.toList[((i : Nat) : Int).toNat]? = some l[i] := by rw [bs_list, Int.toNat_natCast, List.getElem?_eq_getElem hlt]
      refine cw_skip ?_
      refine kw_code (fun _ _ h => h) ?_
      refine cw_seq ?_
      refine cw_block ?_
      refine cw_region ?_
      refine ow_y (y_move rfl) ?_
      refine ow_y (y_move rfl) ?_
      refine ow_y (y_move rfl) ?_
      refine ow_y (y_byte F.st9 rfl rfl (by omega) (by assumption)) ?_
      refine ow_y (y_and rfl rfl) ?_
      rw [and_3, low_eq]
      refine (ow_buildSlice F.sl74 F.z5 rfl rfl rfl (by simp [fillL, madeL, Value.cells] <;> rfl) (fun b20 => ?_))
      refine ow_y (y_text F.sl74 F.st9 F.by5 rfl (l := [low l[i]]) rfl rfl) ?_
      refine ow_gives rfl F.hb12 rfl (repeatS [low l[i]] 64 (by simp) (by omega)) aSp ?_
      try simp only [List.cons_append, List.nil_append]
      rw [secOf_flat]
      refine ow_y (y_str_add rfl rfl (by rw [bs_size, bs_size, dataL_len]; simp [secOf]; omega)) ?_
      rw [← bs_append, dataL_step hlt hi12]
      refine ow_y (y_assign rfl) ?_
      refine ow_nil ?_
      refine kw_code (fun _ _ h => h) ?_
      refine cw_region ?_
      refine ow_y (y_move rfl) ?_
      refine ow_y (y_addI rfl rfl (by omega)) ?_
      refine ow_y (y_assign rfl) ?_
      refine ow_nil ?_
      refine kw_rnd (fun _ _ h => h) (⟨i + 1, hi12, hlt⟩) (by first | omega | (simp only; omega)) (by repeat (first | exact Sub.nil | refine Sub.cons rfl ?_)) aSp
    · skip
      skip
      refine cw_exit ?_
      refine kw_code (fun _ _ h => h) ?_
      refine cw_seq ?_
      refine cw_region ?_
      refine ow_y (y_move rfl) ?_
      refine ow_y (y_assign rfl) ?_
      refine ow_nil ?_
      refine kw_code (fun _ _ h => h) ?_
      refine cw_retG (fun _ _ h => h) rfl (by rw [dataL_end (.inr (by have := of_decide_eq_false hb12; omega)) hi]) aSp
  · skip
    refine cw_region ?_
    refine ow_y (y_move rfl) ?_
    refine ow_y (y_move rfl) ?_
    refine ow_y (y_len_str F.st9 rfl) ?_
    rw [bs_size]
    refine ow_y (y_lss rfl rfl) ?_
    refine ow_y (y_move rfl) ?_
    refine ow_skip rfl (fun a w hh => (want_of rfl rfl rfl hh).trans (wTF (by first | rfl | exact decide_eq_false (by omega)))) ?_
    refine ow_skip rfl (fun a w hh => (want_of rfl rfl rfl hh).trans (wTF (by first | rfl | exact decide_eq_false (by omega)))) ?_
    refine ow_y (y_pickF rfl (by first | rfl | exact decide_eq_false (by omega)) rfl) ?_
    refine ow_nil ?_
    refine kw_code (fun _ _ h => h) ?_
    refine cw_false rfl rfl ?_
    refine cw_exit ?_
    refine kw_code (fun _ _ h => h) ?_
    refine cw_seq ?_
    refine cw_region ?_
    refine ow_y (y_move rfl) ?_
    refine ow_y (y_assign rfl) ?_
    refine ow_nil ?_
    refine kw_code (fun _ _ h => h) ?_
    refine cw_retG (fun _ _ h => h) rfl (by rw [dataL_end (.inl (by omega)) hi]) aSp
end Go.Proofs.YthlclfdnhnnebaaGreatDoor
end
section
set_option maxRecDepth 4000
set_option maxHeartbeats 4000000
namespace Go.Proofs.YthlclfdnhnnebaaGreatDoor
open Go.Sl Go.Sb
def Fit (s : St) : Prop := s.bits ≤ 256 ∧ s.vols.length ≤ 1000
def xs64 : B := List.replicate 64 120
def AwakeSays (s0 : St) : Prop := ∃ s1 s2 s3 s4 s5 : St, (Fit s0 ∧ Fit s1 ∧ Fit s2 ∧ Fit s3 ∧ Fit s4) ∧ ccreateA 5 s0 = (.ok (1, 0), s1) ∧ cwriteA 1 4 xs64 s1 = (.ok 0, s2) ∧ ccopyA 1 true s2 = (.ok (2, 0), s3) ∧ cwriteA 2 0 [] s3 = (.ok 7, s4) ∧ cwriteA 1 5 xs64 s4 = (.ok 6, s5)
section
variable {W : World} {s t : St}
theorem run_create {size : Int} {p : Int × Int} (hf : Fit s) (h : ccreateA size s = (.ok p, t)) (a : Ad) : Does Tryz.prog 8 #[ptr a.core, .int .i64 size] (RS W a s) (Gives (pairV p) (RS W a t)) := by
  have k := ccreate_spec W a s size hf.2 (by rw [h]; simp)
  rw [h] at k; exact k.ran_ok
theorem run_write (hW : ShaW W) {id at_ : Int} {data : B} {e : Int} (hf : Fit s) (hd : data.length ≤ 100000) (h : cwriteA id at_ data s = (.ok e, t)) (a : Ad) : Does Tryz.prog 10 #[ptr a.core, .int .u32 id, .int .i64 at_, strV data] (RS W a s) (Gives (intV e) (RS W a t)) := by
  have k := cwrite_spec W hW a s id at_ data hf.1 hd hf.2 (by rw [h]; simp)
  rw [h] at k; exact k.ran_ok
theorem run_snap {id : Int} {p : Int × Int} (hf : Fit s) (h : ccopyA id true s = (.ok p, t)) (a : Ad) : Does Tryz.prog 20 #[ptr a.core, .int .u32 id] (RS W a s) (Gives (pairV p) (RS W a t)) := by
  have k := csnap_spec W a s id hf.2 (by rw [h]; simp)
  rw [h] at k; exact k.ran_ok
theorem run_read {id at_ n : Int} {p : B × Int} (h : creadA id at_ n s = (.ok p, t)) (a : Ad) : Does Tryz.prog 11 #[ptr a.core, .int .u32 id, .int .i64 at_, .int .i64 n] (RS W a s) (Gives (textV p) (RS W a t)) := by
  have k := cread_ok W a s id at_ n (by rw [h]; simp)
  rw [h] at k; exact k.ran_ok
end
set_option maxRecDepth 8000 in
theorem awake_spec (W : World) (hW : ShaW W) (hA : AwakeSays (cnew (dnew 100) 2 256 1)) : Does Tryz.prog 6 #[] [whole W] (Gives (.bool true) [whole W]) := by
  obtain ⟨s1, s2, s3, s4, s5, ⟨f0, f1, f2, f3, f4⟩, h1, h2, h3, h4, h5⟩ := hA
  have k1 := fun a => run_create (W := W) f0 h1 a
  have k2 := fun a => run_write (W := W) hW f1 (by simp [xs64]) h2 a
  have k3 := fun a => run_snap (W := W) f2 h3 a
  have k4 := fun a => run_write (W := W) hW f3 (by simp) h4 a
  have k5 := fun a => run_write (W := W) hW f4 (by simp [xs64]) h5 a
  have hr := repeatS [120] 64 (by simp) (by omega)
  have hxs : (List.replicate 64 [(120 : UInt8)]).flatten = xs64 := rfl
  rw [hxs] at hr
  refine does_enter Tryz.func6 rfl Tryz.ntmps6 rfl (fun R w0 => ?_)
  simp only [envOf, List.cons_append, List.nil_append]
  refine cw_seq ?_
  refine cw_region ?_
  refine ow_y (y_assign rfl) ?_
  refine ow_nil ?_
  refine kw_code (fun _ _ h => h) ?_
  refine cw_seq ?_
  refine cw_region ?_
  refine ow_givesE rfl F.hb7 rfl (make_spec W 98 256 (by omega) (by omega)) aSp ?_
  rintro ⟨a, bw⟩ _
  try simp only [List.cons_append, List.nil_append]
  refine ow_y (y_move rfl) ?_
  refine ow_y (y_ext rfl rfl) ?_
  refine ow_y (y_ext rfl rfl) ?_
  refine ow_y (y_assign rfl) ?_
  refine ow_y (y_assign rfl) ?_
  refine ow_nil ?_
  refine kw_code (fun _ _ h => h) ?_
  refine cw_seq ?_
  refine cw_seq ?_
  refine cw_region ?_
  refine ow_y (y_move rfl) ?_
  refine ow_y (y_not rfl) ?_
  refine ow_nil ?_
  refine kw_code (fun _ _ h => h) ?_
  refine cw_false rfl rfl ?_
  refine cw_skip ?_
  refine kw_code (fun _ _ h => h) ?_
  refine cw_seq ?_
  refine cw_region ?_
  refine ow_y (y_move rfl) ?_
  refine ow_y (y_nil rfl) ?_
  refine ow_y (y_fld F.fld34_0 rfl) ?_
  refine ow_y (y_load F.sc29 rfl (by rfl)) ?_
  refine ow_gives rfl F.hb8 rfl (k1 a) aSp ?_
  try simp only [List.cons_append, List.nil_append]
  refine ow_y (y_move rfl) ?_
  refine ow_y (y_ext rfl rfl) ?_
  refine ow_y (y_ext rfl rfl) ?_
  refine ow_y (y_assign rfl) ?_
  refine ow_y (y_assign rfl) ?_
  refine ow_nil ?_
  refine kw_code (fun _ _ h => h) ?_
  refine cw_seq ?_
  refine cw_mix (.soft 0 (.soft 1 (.soft 2 (.soft 3 (.hard 4 (.hard 5 (.soft 6 .done))))))) [wldP bw a.core 256] F.fol (by kernel_rfl) (by repeat (first | with_reducible exact NoSlots.bp | with_reducible apply NoSlots.then | with_reducible apply NoSlots.inBlock)) aSp ?_
  refine om_y rfl (y_move rfl) ?_
  refine om_y rfl (y_nil rfl) ?_
  refine om_y rfl (y_fld F.fld34_0 rfl) ?_
  refine om_y rfl (y_load F.sc29 rfl (by rfl)) ?_
  refine om_h rfl ?_
  refine ow_gives rfl F.hb12 rfl (hr) aSp ?_
  try simp only [List.cons_append, List.nil_append]
  refine ow_nil ?_
  refine om_next aSp ?_
  refine om_h rfl ?_
  refine ow_gives rfl F.hb10 rfl (k2 a) aSp ?_
  try simp only [List.cons_append, List.nil_append]
  refine ow_nil ?_
  refine om_next aSp ?_
  refine om_y rfl (y_assign rfl) ?_
  refine om_nil ?_
  refine kw_code (fun _ _ h => h) ?_
  refine cw_seq ?_
  refine cw_region ?_
  refine ow_y (y_move rfl) ?_
  refine ow_y (y_nil rfl) ?_
  refine ow_y (y_fld F.fld34_0 rfl) ?_
  refine ow_y (y_load F.sc29 rfl (by rfl)) ?_
  refine ow_gives rfl F.hb20 rfl (k3 a) aSp ?_
  try simp only [List.cons_append, List.nil_append]
  refine ow_y (y_move rfl) ?_
  refine ow_y (y_ext rfl rfl) ?_
  refine ow_y (y_ext rfl rfl) ?_
  refine ow_y (y_assign rfl) ?_
  refine ow_y (y_assign rfl) ?_
  refine ow_nil ?_
  refine kw_code (fun _ _ h => h) ?_
  refine cw_seq ?_
  refine cw_mix (.soft 0 (.soft 1 (.soft 2 (.soft 3 (.soft 4 (.soft 5 (.soft 6 (.soft 7 (.soft 8 (.soft 9 (.soft 10 (.soft 11 (.soft 12 (.soft 13 (.soft 14 (.soft 15 (.soft 16 (.soft 17 (.soft 18 (.soft 19 (.soft 20 (.soft 21 (.soft 22 (.hard 23 (.soft 24 (.soft 25 (.soft 26 (.soft 27 (.soft 28 (.soft 29 (.soft 30 (.hard 31 (.hard 32 (.soft 33 (.soft 34 (.soft 35 .done)))))))))))))))))))))))))))))))))))) [wldP bw a.core 256] F.fol (by kernel_rfl) (by repeat (first | with_reducible exact NoSlots.bp | with_reducible apply NoSlots.then | with_reducible apply NoSlots.inBlock)) aSp ?_
  refine om_y rfl (y_move rfl) ?_
  refine om_y rfl (y_eql rfl rfl) ?_
  refine om_y rfl (y_move rfl) ?_
  refine om_yg rfl (y_move rfl) (fun a w hh => (want_of rfl rfl rfl hh).trans (wTT rfl)) ?_
  refine om_yg rfl (y_eql rfl rfl) (fun a w hh => (want_of rfl rfl rfl hh).trans (wTT rfl)) ?_
  refine om_y rfl (y_pickT rfl rfl rfl) ?_
  refine om_y rfl (y_move rfl) ?_
  refine om_yg rfl (y_move rfl) (fun a w hh => (want_of rfl rfl rfl hh).trans (wTT rfl)) ?_
  refine om_yg rfl (y_eql rfl rfl) (fun a w hh => (want_of rfl rfl rfl hh).trans (wTT rfl)) ?_
  refine om_y rfl (y_pickT rfl rfl rfl) ?_
  refine om_y rfl (y_move rfl) ?_
  refine om_yg rfl (y_move rfl) (fun a w hh => (want_of rfl rfl rfl hh).trans (wTT rfl)) ?_
  refine om_yg rfl (y_eql rfl rfl) (fun a w hh => (want_of rfl rfl rfl hh).trans (wTT rfl)) ?_
  refine om_y rfl (y_pickT rfl rfl rfl) ?_
  refine om_y rfl (y_move rfl) ?_
  refine om_yg rfl (y_move rfl) (fun a w hh => (want_of rfl rfl rfl hh).trans (wTT rfl)) ?_
  refine om_yg rfl (y_eql rfl rfl) (fun a w hh => (want_of rfl rfl rfl hh).trans (wTT rfl)) ?_
  refine om_y rfl (y_pickT rfl rfl rfl) ?_
  refine om_y rfl (y_move rfl) ?_
  refine om_yg rfl (y_move rfl) (fun a w hh => (want_of rfl rfl rfl hh).trans (wTT rfl)) ?_
  refine om_yg rfl (y_nil rfl) (fun a w hh => (want_of rfl rfl rfl hh).trans (wTT rfl)) ?_
  refine om_yg rfl (y_fld F.fld34_0 rfl) (fun a w hh => (want_of rfl rfl rfl hh).trans (wTT rfl)) ?_
  refine om_yg rfl (y_load F.sc29 rfl (by rfl)) (fun a w hh => (want_of rfl rfl rfl hh).trans (wTT rfl)) ?_
  refine om_h rfl ?_
  refine ow_want (fun a w hh => (want_of rfl rfl rfl hh).trans (wTT rfl)) ?_
  refine ow_gives rfl F.hb10 rfl (k4 a) aSp ?_
  try simp only [List.cons_append, List.nil_append]
  refine ow_nil ?_
  refine om_next aSp ?_
  refine om_yg rfl (y_eql rfl rfl) (fun a w hh => (want_of rfl rfl rfl hh).trans (wTT rfl)) ?_
  refine om_y rfl (y_pickT rfl rfl rfl) ?_
  refine om_y rfl (y_move rfl) ?_
  refine om_yg rfl (y_move rfl) (fun a w hh => (want_of rfl rfl rfl hh).trans (wTT rfl)) ?_
  refine om_yg rfl (y_nil rfl) (fun a w hh => (want_of rfl rfl rfl hh).trans (wTT rfl)) ?_
  refine om_yg rfl (y_fld F.fld34_0 rfl) (fun a w hh => (want_of rfl rfl rfl hh).trans (wTT rfl)) ?_
  refine om_yg rfl (y_load F.sc29 rfl (by rfl)) (fun a w hh => (want_of rfl rfl rfl hh).trans (wTT rfl)) ?_
  refine om_h rfl ?_
  refine ow_want (fun a w hh => (want_of rfl rfl rfl hh).trans (wTT rfl)) ?_
  refine ow_gives rfl F.hb12 rfl (hr) aSp ?_
  try simp only [List.cons_append, List.nil_append]
  refine ow_nil ?_
  refine om_next aSp ?_
  refine om_h rfl ?_
  refine ow_want (fun a w hh => (want_of rfl rfl rfl hh).trans (wTT rfl)) ?_
  refine ow_gives rfl F.hb10 rfl (k5 a) aSp ?_
  try simp only [List.cons_append, List.nil_append]
  refine ow_nil ?_
  refine om_next aSp ?_
  refine om_yg rfl (y_eql rfl rfl) (fun a w hh => (want_of rfl rfl rfl hh).trans (wTT rfl)) ?_
  refine om_y rfl (y_pickT rfl rfl rfl) ?_
  refine om_y rfl (y_assign rfl) ?_
  refine om_nil ?_
  refine kw_code (fun _ _ h => h) ?_
  refine cw_retG (fun _ _ h => h) rfl rfl aSp
end Go.Proofs.YthlclfdnhnnebaaGreatDoor
end
section
set_option maxRecDepth 4000
set_option maxHeartbeats 4000000
namespace Go.Proofs.YthlclfdnhnnebaaGreatDoor
open Go.Sl Go.Sb
def fullL (at_ : Nat) (l : B) : B := zeros (64 * at_) ++ dataL l ++ zeros (3840 - (64 * at_ + (dataL l).length))
def piece (at_ : Nat) (l : B) (fr n : Nat) : B := ((fullL at_ l).drop (64 * fr)).take (64 * n)
def ReadsSays (s0 : St) : Prop := ∀ (l : B) (at_ fr n cut : Nat), at_ < 48 → fr < 60 → fr + n ≤ 60 → cut ≤ n → ∃ s1 s2 s3 s4 s5 : St, (Fit s0 ∧ Fit s1) ∧ ccreateA 60 s0 = (.ok (1, 0), s1) ∧ cwriteA 1 at_ (dataL l) s1 = (.ok 0, s2) ∧
  creadA 1 fr n s2 = (.ok (piece at_ l fr n, 0), s3) ∧ creadA 1 fr cut s3 = (.ok (piece at_ l fr cut, 0), s4) ∧ creadA 1 ((fr : Int) + cut) ((n : Int) - cut) s4 = (.ok (piece at_ l (fr + cut) (n - cut), 0), s5)
theorem full_len {at_ : Nat} {l : B} (h : at_ < 48) : (fullL at_ l).length = 3840 := by
  have := dataL_len l
  unfold fullL; simp only [List.length_append, zeros, List.length_replicate]; omega
theorem piece_len {at_ : Nat} {l : B} {fr n : Nat} (h : at_ < 48) (h2 : fr + n ≤ 60) : (piece at_ l fr n).length = 64 * n := by
  unfold piece; rw [List.length_take, List.length_drop, full_len h]; omega
theorem piece_cut {at_ : Nat} {l : B} {fr n cut : Nat} (h : cut ≤ n) : piece at_ l fr n = piece at_ l fr cut ++ piece at_ l (fr + cut) (n - cut) := by
  unfold piece
  rw [show 64 * n = 64 * cut + 64 * (n - cut) by omega, List.take_add, List.drop_drop, show 64 * fr + 64 * cut = 64 * (fr + cut) by omega]
theorem piece_at {at_ : Nat} {l : B} {fr n i : Nat} (h : i < n) : ((piece at_ l fr n).take (64 * i + 64)).drop (64 * i) = ((fullL at_ l).drop (64 * (fr + i))).take 64 := by
  unfold piece
  rw [List.take_take, show min (64 * i + 64) (64 * n) = 64 * i + 64 by omega, List.drop_take, List.drop_drop, show 64 * i + 64 - 64 * i = 64 by omega, show 64 * fr + 64 * i = 64 * (fr + i) by omega]
theorem full_in {at_ : Nat} {l : B} {k : Nat} (h : at_ ≤ k) (h2 : 64 * (k - at_) + 64 ≤ (dataL l).length) : ((fullL at_ l).drop (64 * k)).take 64 = ((dataL l).take (64 * (k - at_) + 64)).drop (64 * (k - at_)) := by
  unfold fullL
  rw [List.append_assoc, show 64 * k = (zeros (64 * at_)).length + 64 * (k - at_) by simp [zeros]; omega, List.drop_length_add_append, List.drop_append_of_le_length (by omega), List.take_append_of_le_length (by rw [List.length_drop]; omega), List.drop_take, show 64 * (k - at_) + 64 - 64 * (k - at_) = 64 by omega]
theorem full_lo {at_ : Nat} {l : B} {k : Nat} (h : k < at_) : ((fullL at_ l).drop (64 * k)).take 64 = zeros 64 := by
  unfold fullL
  rw [List.append_assoc, List.drop_append_of_le_length (by simp [zeros]; omega), List.take_append_of_le_length (by simp [zeros]; omega)]
  unfold zeros
  rw [List.drop_replicate, List.take_replicate, Nat.min_eq_left (by omega)]
theorem full_hi {at_ : Nat} {l : B} {k : Nat} (h : at_ < 48) (h1 : 64 * at_ + (dataL l).length ≤ 64 * k) (h2 : k < 60) : ((fullL at_ l).drop (64 * k)).take 64 = zeros 64 := by
  unfold fullL
  rw [show 64 * k = (zeros (64 * at_) ++ dataL l).length + (64 * k - (64 * at_ + (dataL l).length)) by simp [zeros]; omega, List.drop_length_add_append]
  unfold zeros
  rw [List.drop_replicate, List.take_replicate, Nat.min_eq_left (by have := dataL_len l; omega)]
theorem data_cut {d : B} {k lo hi : Nat} (h1 : lo = 64 * k) (h2 : hi = 64 * k + 64) : (bs d).extract lo hi = bs ((d.take (64 * k + 64)).drop (64 * k)) := by subst h1 h2; exact bs_cut _ _ _
theorem sec_eq {at_ : Nat} {l : B} {fr n i a b : Nat} (hin : i < n) {want : B} (h : ((fullL at_ l).drop (64 * (fr + i))).take 64 = want) (ha : a = 64 * i) (hb : b = 64 * i + 64) : (!(((bs (piece at_ l fr n)).extract a b).toList == (bs want).toList)) = false := by
  subst ha hb; rw [bs_cut, piece_at hin, h]; simp
set_option maxRecDepth 8000 in
theorem coreReads_spec (W : World) (hW : ShaW W) (hA : AwakeSays (cnew (dnew 100) 2 256 1)) (hR : ReadsSays (cnew (dnew 200) 2 256 1)) (ia : Int) (l : B) (ifr inn ic : Int) :
    Does Tryz.prog 3 #[.int .i64 ia, strV l, .int .i64 ifr, .int .i64 inn, .int .i64 ic] [whole W] (Gives (.bool true) [whole W]) := by
  obtain ⟨kA, hkA⟩ : ∃ k : Nat, ia % 256 % 48 = k := ⟨(ia % 256 % 48).toNat, by omega⟩
  obtain ⟨kF, hkF⟩ : ∃ k : Nat, ifr % 256 % 60 = k := ⟨(ifr % 256 % 60).toNat, by omega⟩
  obtain ⟨kM, hkM⟩ : ∃ k : Nat, inn % 256 % 60 = k := ⟨(inn % 256 % 60).toNat, by omega⟩
  obtain ⟨kN, hkN⟩ : ∃ k : Nat, min (kM : Int) (60 - kF) = k := ⟨(min (kM : Int) (60 - kF)).toNat, by omega⟩
  obtain ⟨kC, hkC⟩ : ∃ k : Nat, min (max ic 0) kN = k := ⟨(min (max ic 0) kN).toNat, by omega⟩
  have b1 : kA < 48 := by omega
  have b2 : kF < 60 := by omega
  have b3 : kF + kN ≤ 60 := by omega
  have b4 : kC ≤ kN := by omega
  obtain ⟨s1, s2, s3, s4, s5, ⟨f0, f1⟩, h1, h2, h3, h4, h5⟩ := hR l kA kF kN kC b1 b2 b3 b4
  have hdl := dataL_len l
  have k1 := fun a => run_create (W := W) f0 h1 a
  have k2 := fun a => run_write (W := W) hW f1 (by omega) h2 a
  have k3 := fun a => run_read (W := W) h3 a
  have k4 := fun a => run_read (W := W) h4 a
  have k5 := fun a => run_read (W := W) h5 a
  have hz := repeat0 64 (by omega)
  have hpl := piece_len (l := l) b1 b3
  have hne : (!((bs (piece kA l kF kN)).toList == (bs (piece kA l kF kC) ++ bs (piece kA l (kF + kC) (kN - kC))).toList)) = false := by
    rw [← bs_append, ← piece_cut b4]; simp
  have hbd : (bs (dataL l)).size = (dataL l).length := bs_size _
  have hbp : (bs (piece kA l kF kN)).size = 64 * kN := by rw [bs_size, hpl]
  refine does_enter Tryz.func3 rfl Tryz.ntmps3 rfl (fun R w0 => ?_)
  simp only [envOf, List.cons_append, List.nil_append]
  refine cw_seq ?_
  refine cw_region ?_
  refine ow_y (y_assign rfl) ?_
  refine ow_nil ?_
  refine kw_code (fun _ _ h => h) ?_
  refine cw_seq ?_
  refine cw_seq ?_
  refine cw_region ?_
  refine ow_gives rfl F.hb6 rfl (awake_spec W hW hA) aSp ?_
  try simp only [List.cons_append, List.nil_append]
  refine ow_y (y_not rfl) ?_
  refine ow_nil ?_
  refine kw_code (fun _ _ h => h) ?_
  refine cw_false rfl rfl ?_
  refine cw_skip ?_
  refine kw_code (fun _ _ h => h) ?_
  refine cw_seq ?_
  refine cw_region ?_
  refine ow_givesE rfl F.hb7 rfl (make_spec W 198 256 (by omega) (by omega)) aSp ?_
  rintro ⟨a, bw⟩ _
  try simp only [List.cons_append, List.nil_append]
  refine ow_y (y_move rfl) ?_
  refine ow_y (y_ext rfl rfl) ?_
  refine ow_y (y_ext rfl rfl) ?_
  refine ow_y (y_assign rfl) ?_
  refine ow_y (y_assign rfl) ?_
  refine ow_nil ?_
  refine kw_code (fun _ _ h => h) ?_
  refine cw_seq ?_
  refine cw_seq ?_
  refine cw_region ?_
  refine ow_y (y_move rfl) ?_
  refine ow_y (y_nil rfl) ?_
  refine ow_y (y_fld F.fld34_0 rfl) ?_
  refine ow_y (y_load F.sc29 rfl (by rfl)) ?_
  refine ow_gives rfl F.hb8 rfl (k1 a) aSp ?_
  try simp only [List.cons_append, List.nil_append]
  refine ow_y (y_move rfl) ?_
  refine ow_y (y_ext rfl rfl) ?_
  refine ow_y (y_ext rfl rfl) ?_
  refine ow_y (y_assign rfl) ?_
  refine ow_y (y_assign rfl) ?_
  refine ow_nil ?_
  refine kw_code (fun _ _ h => h) ?_
  refine cw_seq ?_
  refine cw_region ?_
  refine ow_y (y_move rfl) ?_
  refine ow_y (y_not rfl) ?_
  refine ow_y (y_move rfl) ?_
  refine ow_yg (y_move rfl) (fun a w hh => (want_of rfl rfl rfl hh).trans (wFF rfl)) ?_
  refine ow_yg (y_neq rfl rfl) (fun a w hh => (want_of rfl rfl rfl hh).trans (wFF rfl)) ?_
  refine ow_y (y_pickF rfl rfl rfl) ?_
  refine ow_nil ?_
  refine kw_code (fun _ _ h => h) ?_
  refine cw_false rfl rfl ?_
  refine cw_skip ?_
  refine kw_code (fun _ _ h => h) ?_
  refine cw_seq ?_
  refine cw_region ?_
  refine ow_y (y_move rfl) ?_
  refine ow_y (y_and rfl rfl) ?_
  rw [and_255 _ (by decide)]
  refine ow_y (y_remI rfl rfl (by omega)) ?_
  rw [hkA]
  refine ow_y (y_move rfl) ?_
  refine ow_y (y_and rfl rfl) ?_
  rw [and_255 _ (by decide)]
  refine ow_y (y_remI rfl rfl (by omega)) ?_
  rw [hkF]
  refine ow_y (y_move rfl) ?_
  refine ow_y (y_and rfl rfl) ?_
  rw [and_255 _ (by decide)]
  refine ow_y (y_remI rfl rfl (by omega)) ?_
  rw [hkM]
  refine ow_y (y_assign rfl) ?_
  refine ow_y (y_assign rfl) ?_
  refine ow_y (y_assign rfl) ?_
  refine ow_nil ?_
  refine kw_code (fun _ _ h => h) ?_
  refine cw_seq ?_
  refine cw_region ?_
  refine ow_y (y_move rfl) ?_
  refine ow_gives rfl F.hb9 rfl (data_spec l) aSp ?_
  try simp only [List.cons_append, List.nil_append]
  refine ow_y (y_assign rfl) ?_
  refine ow_nil ?_
  refine kw_code (fun _ _ h => h) ?_
  refine cw_seq ?_
  refine cw_seq ?_
  refine cw_region ?_
  refine ow_y (y_move rfl) ?_
  refine ow_y (y_nil rfl) ?_
  refine ow_y (y_fld F.fld34_0 rfl) ?_
  refine ow_y (y_load F.sc29 rfl (by rfl)) ?_
  refine ow_y (y_move rfl) ?_
  refine ow_y (y_move rfl) ?_
  refine ow_gives rfl F.hb10 rfl (k2 a) aSp ?_
  try simp only [List.cons_append, List.nil_append]
  refine ow_y (y_neq rfl rfl) ?_
  refine ow_nil ?_
  refine kw_code (fun _ _ h => h) ?_
  refine cw_false rfl rfl ?_
  refine cw_skip ?_
  refine kw_code (fun _ _ h => h) ?_
  refine cw_seq ?_
  refine cw_region ?_
  refine ow_y (y_move rfl) ?_
  refine ow_y (y_move rfl) ?_
  refine ow_y (y_subI rfl rfl (by omega)) ?_
  refine ow_y (y_min rfl rfl) ?_
  rw [hkN]
  refine ow_y (y_assign rfl) ?_
  refine ow_nil ?_
  refine kw_code (fun _ _ h => h) ?_
  refine cw_seq ?_
  refine cw_region ?_
  refine ow_y (y_move rfl) ?_
  refine ow_y (y_max rfl rfl) ?_
  refine ow_y (y_move rfl) ?_
  refine ow_y (y_min rfl rfl) ?_
  rw [hkC]
  refine ow_y (y_assign rfl) ?_
  refine ow_nil ?_
  refine kw_code (fun _ _ h => h) ?_
  refine cw_seq ?_
  refine cw_region ?_
  refine ow_y (y_move rfl) ?_
  refine ow_y (y_nil rfl) ?_
  refine ow_y (y_fld F.fld34_0 rfl) ?_
  refine ow_y (y_load F.sc29 rfl (by rfl)) ?_
  refine ow_y (y_move rfl) ?_
  refine ow_y (y_move rfl) ?_
  refine ow_gives rfl F.hb11 rfl (k3 a) aSp ?_
  try simp only [List.cons_append, List.nil_append]
  refine ow_y (y_move rfl) ?_
  refine ow_y (y_ext rfl rfl) ?_
  refine ow_y (y_ext rfl rfl) ?_
  refine ow_y (y_assign rfl) ?_
  refine ow_y (y_assign rfl) ?_
  refine ow_nil ?_
  refine kw_code (fun _ _ h => h) ?_
  refine cw_seq ?_
  refine cw_region ?_
  refine ow_y (y_move rfl) ?_
  refine ow_y (y_nil rfl) ?_
  refine ow_y (y_fld F.fld34_0 rfl) ?_
  refine ow_y (y_load F.sc29 rfl (by rfl)) ?_
  refine ow_y (y_move rfl) ?_
  refine ow_y (y_move rfl) ?_
  refine ow_gives rfl F.hb11 rfl (k4 a) aSp ?_
  try simp only [List.cons_append, List.nil_append]
  refine ow_y (y_move rfl) ?_
  refine ow_y (y_ext rfl rfl) ?_
  refine ow_y (y_ext rfl rfl) ?_
  refine ow_y (y_assign rfl) ?_
  refine ow_y (y_assign rfl) ?_
  refine ow_nil ?_
  refine kw_code (fun _ _ h => h) ?_
  refine cw_seq ?_
  refine cw_region ?_
  refine ow_y (y_move rfl) ?_
  refine ow_y (y_nil rfl) ?_
  refine ow_y (y_fld F.fld34_0 rfl) ?_
  refine ow_y (y_load F.sc29 rfl (by rfl)) ?_
  refine ow_y (y_move rfl) ?_
  refine ow_y (y_move rfl) ?_
  refine ow_y (y_addI rfl rfl (by omega)) ?_
  refine ow_y (y_move rfl) ?_
  refine ow_y (y_move rfl) ?_
  refine ow_y (y_subI rfl rfl (by omega)) ?_
  refine ow_gives rfl F.hb11 rfl (k5 a) aSp ?_
  try simp only [List.cons_append, List.nil_append]
  refine ow_y (y_move rfl) ?_
  refine ow_y (y_ext rfl rfl) ?_
  refine ow_y (y_ext rfl rfl) ?_
  refine ow_y (y_assign rfl) ?_
  refine ow_y (y_assign rfl) ?_
  refine ow_nil ?_
  refine kw_code (fun _ _ h => h) ?_
  refine cw_seq ?_
  refine cw_seq ?_
  refine cw_region ?_
  refine ow_y (y_move rfl) ?_
  refine ow_y (y_neq rfl rfl) ?_
  refine ow_y (y_move rfl) ?_
  refine ow_yg (y_move rfl) (fun a w hh => (want_of rfl rfl rfl hh).trans (wFF rfl)) ?_
  refine ow_yg (y_neq rfl rfl) (fun a w hh => (want_of rfl rfl rfl hh).trans (wFF rfl)) ?_
  refine ow_y (y_pickF rfl rfl rfl) ?_
  refine ow_y (y_move rfl) ?_
  refine ow_yg (y_move rfl) (fun a w hh => (want_of rfl rfl rfl hh).trans (wFF rfl)) ?_
  refine ow_yg (y_neq rfl rfl) (fun a w hh => (want_of rfl rfl rfl hh).trans (wFF rfl)) ?_
  refine ow_y (y_pickF rfl rfl rfl) ?_
  refine ow_y (y_move rfl) ?_
  refine ow_yg (y_move rfl) (fun a w hh => (want_of rfl rfl rfl hh).trans (wFF rfl)) ?_
  refine ow_yg (y_move rfl) (fun a w hh => (want_of rfl rfl rfl hh).trans (wFF rfl)) ?_
  refine ow_yg (y_move rfl) (fun a w hh => (want_of rfl rfl rfl hh).trans (wFF rfl)) ?_
  refine ow_yg (y_str_add rfl rfl (by rw [bs_size, bs_size, piece_len b1 (by omega), show ((piece kA l (kF + kC) (kN - kC), (0 : Int)).fst).length = 64 * (kN - kC) from piece_len b1 (by omega)]; omega)) (fun a w hh => (want_of rfl rfl rfl hh).trans (wFF rfl)) ?_
  refine ow_yg (y_str_neq rfl rfl) (fun a w hh => (want_of rfl rfl rfl hh).trans (wFF rfl)) ?_
  refine ow_y (y_pickF rfl rfl rfl) ?_
  refine ow_y (y_move rfl) ?_
  refine ow_yg (y_move rfl) (fun a w hh => (want_of rfl rfl rfl hh).trans (wFF hne)) ?_
  refine ow_yg (y_len_str F.st9 rfl) (fun a w hh => (want_of rfl rfl rfl hh).trans (wFF hne)) ?_
  refine ow_yg (y_move rfl) (fun a w hh => (want_of rfl rfl rfl hh).trans (wFF hne)) ?_
  refine ow_yg (y_mulI rfl rfl (by omega)) (fun a w hh => (want_of rfl rfl rfl hh).trans (wFF hne)) ?_
  refine ow_yg (y_neq rfl rfl) (fun a w hh => (want_of rfl rfl rfl hh).trans (wFF hne)) ?_
  refine ow_y (y_pickF rfl hne rfl) ?_
  refine ow_nil ?_
  refine kw_code (fun _ _ h => h) ?_
  refine cw_false rfl (by rw [bs_size, hpl]; simp) ?_
  refine cw_skip ?_
  refine kw_code (fun _ _ h => h) ?_
  refine cw_seq ?_
  refine cw_seq ?_
  refine cw_region ?_
  refine ow_y (y_move rfl) ?_
  refine ow_y (y_move rfl) ?_
  refine ow_nil ?_
  refine kw_code (fun _ _ h => h) ?_
  refine cw_block ?_
  refine cw_loop (X := {i : Nat // i ≤ kN}) (fun y => [(0, .int .i64 kA), (2, .int .i64 kF), (15, strV (dataL l)), (16, strV (piece kA l kF kN)), (130, .int .i64 kN), (131, .int .i64 y.1)]) (fun y => [whole W, R]) (fun y => kN - y.1) ⟨0, by omega⟩ (by repeat (first | exact Sub.nil | refine Sub.cons rfl ?_)) aSp ?_
  rintro ⟨i, hi⟩ m0 hm0
  try simp only at hm0
  try dsimp only
  skip
  refine cw_seq ?_
  refine cw_region ?_
  refine ow_y (y_lss rfl rfl) ?_
  refine ow_nil ?_
  refine kw_code (fun _ _ h => h) ?_
  refine cw_seq ?_
  refine cw_if rfl (fun hb132 => ?_) (fun hb132 => ?_)
  · skip
    have hin : i < kN := by have := of_decide_eq_true hb132; omega
    refine cw_skip ?_
    refine kw_code (fun _ _ h => h) ?_
    refine cw_seq ?_
    refine cw_block ?_
    refine cw_seq ?_
    refine cw_region ?_
    refine ow_y (y_move rfl) ?_
    refine ow_y (y_assign rfl) ?_
    refine ow_nil ?_
    refine kw_code (fun _ _ h => h) ?_
    refine cw_seq ?_
    refine cw_region ?_
    refine ow_gives rfl F.hb12 rfl (hz) aSp ?_
    try simp only [List.cons_append, List.nil_append]
    refine ow_y (y_assign rfl) ?_
    refine ow_nil ?_
    refine kw_code (fun _ _ h => h) ?_
    refine cw_seq ?_
    refine cw_seq ?_
    refine cw_region ?_
    refine ow_y (y_move rfl) ?_
    refine ow_y (y_move rfl) ?_
    refine ow_y (y_addI rfl rfl (by omega)) ?_
    refine ow_y (y_move rfl) ?_
    refine ow_y (y_subI rfl rfl (by omega)) ?_
    refine ow_y (y_assign rfl) ?_
    refine ow_nil ?_
    refine kw_code (fun _ _ h => h) ?_
    refine cw_seq ?_
    by_cases hge : kA ≤ kF + i
    · skip
      refine cw_region ?_
      refine ow_y (y_move rfl) ?_
      refine ow_y (y_geq rfl rfl) ?_
      refine ow_y (y_move rfl) ?_
      refine ow_yg (y_move rfl) (fun a w hh => (want_of rfl rfl rfl hh).trans (wTT (by first | rfl | exact decide_eq_true (by omega)))) ?_
      refine ow_yg (y_move rfl) (fun a w hh => (want_of rfl rfl rfl hh).trans (wTT (by first | rfl | exact decide_eq_true (by omega)))) ?_
      refine ow_yg (y_len_str F.st9 rfl) (fun a w hh => (want_of rfl rfl rfl hh).trans (wTT (by first | rfl | exact decide_eq_true (by omega)))) ?_
      refine ow_yg (y_quoI rfl rfl (by omega)) (fun a w hh => (want_of rfl rfl rfl hh).trans (wTT (by first | rfl | exact decide_eq_true (by omega)))) ?_
      refine ow_yg (y_lss rfl rfl) (fun a w hh => (want_of rfl rfl rfl hh).trans (wTT (by first | rfl | exact decide_eq_true (by omega)))) ?_
      refine ow_y (y_pickT rfl (by first | rfl | exact decide_eq_true (by omega)) rfl) ?_
      refine ow_nil ?_
      refine kw_code (fun _ _ h => h) ?_
      refine cw_if rfl (fun hb148 => ?_) (fun hb148 => ?_)
      · skip
        have hin2 : 64 * (kF + i - kA) + 64 ≤ (dataL l).length := by have := of_decide_eq_true hb148; omega
        refine cw_region ?_
        refine ow_y (y_move rfl) ?_
        refine ow_y (y_move rfl) ?_
        refine ow_y (y_mulI rfl rfl (by omega)) ?_
        refine ow_y (y_move rfl) ?_
        refine ow_y (y_mulI rfl rfl (by omega)) ?_
        refine ow_y (y_addI rfl rfl (by omega)) ?_
        refine ow_y (y_cutLH F.st9 rfl rfl rfl (by omega)) ?_
        rw [data_cut (k := kF + i - kA) (by omega) (by omega)]
        refine ow_y (y_assign rfl) ?_
        refine ow_nil ?_
        refine kw_code (fun _ _ h => h) ?_
        refine cw_seq ?_
        refine cw_region ?_
        refine ow_y (y_move rfl) ?_
        refine ow_y (y_move rfl) ?_
        refine ow_y (y_mulI rfl rfl (by omega)) ?_
        refine ow_y (y_move rfl) ?_
        refine ow_y (y_mulI rfl rfl (by omega)) ?_
        refine ow_y (y_addI rfl rfl (by omega)) ?_
        refine ow_y (y_cutLH F.st9 rfl rfl rfl (by omega)) ?_
        refine ow_y (y_move rfl) ?_
        refine ow_y (y_str_neq rfl rfl) ?_
        refine ow_nil ?_
        refine kw_code (fun _ _ h => h) ?_
        refine cw_false rfl (sec_eq hin (full_in hge hin2) (by omega) (by omega)) ?_
        refine cw_skip ?_
        refine kw_code (fun _ _ h => h) ?_
        refine cw_region ?_
        refine ow_y (y_addI rfl rfl (by omega)) ?_
        refine ow_y (y_move rfl) ?_
        refine ow_nil ?_
        refine kw_rnd (fun _ _ h => h) (⟨i + 1, hin⟩) (by first | omega | (simp only; omega)) (by repeat (first | exact Sub.nil | refine Sub.cons rfl ?_)) aSp
      · skip
        refine cw_skip ?_
        refine kw_code (fun _ _ h => h) ?_
        refine cw_seq ?_
        refine cw_region ?_
        refine ow_y (y_move rfl) ?_
        refine ow_y (y_move rfl) ?_
        refine ow_y (y_mulI rfl rfl (by omega)) ?_
        refine ow_y (y_move rfl) ?_
        refine ow_y (y_mulI rfl rfl (by omega)) ?_
        refine ow_y (y_addI rfl rfl (by omega)) ?_
        refine ow_y (y_cutLH F.st9 rfl rfl rfl (by omega)) ?_
        refine ow_y (y_move rfl) ?_
        refine ow_y (y_str_neq rfl rfl) ?_
        refine ow_nil ?_
        refine kw_code (fun _ _ h => h) ?_
        refine cw_false rfl (sec_eq hin (full_hi b1 (by have := of_decide_eq_false hb148; omega) (by omega)) (by omega) (by omega)) ?_
        refine cw_skip ?_
        refine kw_code (fun _ _ h => h) ?_
        refine cw_region ?_
        refine ow_y (y_addI rfl rfl (by omega)) ?_
        refine ow_y (y_move rfl) ?_
        refine ow_nil ?_
        refine kw_rnd (fun _ _ h => h) (⟨i + 1, hin⟩) (by first | omega | (simp only; omega)) (by repeat (first | exact Sub.nil | refine Sub.cons rfl ?_)) aSp
    · skip
      refine cw_region ?_
      refine ow_y (y_move rfl) ?_
      refine ow_y (y_geq rfl rfl) ?_
      refine ow_y (y_move rfl) ?_
      refine ow_skip rfl (fun a w hh => (want_of rfl rfl rfl hh).trans (wTF (by first | rfl | exact decide_eq_false (by omega)))) ?_
      refine ow_skip rfl (fun a w hh => (want_of rfl rfl rfl hh).trans (wTF (by first | rfl | exact decide_eq_false (by omega)))) ?_
      refine ow_skip rfl (fun a w hh => (want_of rfl rfl rfl hh).trans (wTF (by first | rfl | exact decide_eq_false (by omega)))) ?_
      refine ow_skip rfl (fun a w hh => (want_of rfl rfl rfl hh).trans (wTF (by first | rfl | exact decide_eq_false (by omega)))) ?_
      refine ow_skip rfl (fun a w hh => (want_of rfl rfl rfl hh).trans (wTF (by first | rfl | exact decide_eq_false (by omega)))) ?_
      refine ow_y (y_pickF rfl (by first | rfl | exact decide_eq_false (by omega)) rfl) ?_
      refine ow_nil ?_
      refine kw_code (fun _ _ h => h) ?_
      refine cw_false rfl rfl ?_
      refine cw_skip ?_
      refine kw_code (fun _ _ h => h) ?_
      refine cw_seq ?_
      refine cw_region ?_
      refine ow_y (y_move rfl) ?_
      refine ow_y (y_move rfl) ?_
      refine ow_y (y_mulI rfl rfl (by omega)) ?_
      refine ow_y (y_move rfl) ?_
      refine ow_y (y_mulI rfl rfl (by omega)) ?_
      refine ow_y (y_addI rfl rfl (by omega)) ?_
      refine ow_y (y_cutLH F.st9 rfl rfl rfl (by omega)) ?_
      refine ow_y (y_move rfl) ?_
      refine ow_y (y_str_neq rfl rfl) ?_
      refine ow_nil ?_
      refine kw_code (fun _ _ h => h) ?_
      refine cw_false rfl (sec_eq hin (full_lo (by omega)) (by omega) (by omega)) ?_
      refine cw_skip ?_
      refine kw_code (fun _ _ h => h) ?_
      refine cw_region ?_
      refine ow_y (y_addI rfl rfl (by omega)) ?_
      refine ow_y (y_move rfl) ?_
      refine ow_nil ?_
      refine kw_rnd (fun _ _ h => h) (⟨i + 1, hin⟩) (by first | omega | (simp only; omega)) (by repeat (first | exact Sub.nil | refine Sub.cons rfl ?_)) aSp
  · skip
    skip
    refine cw_exit ?_
    refine kw_code (fun _ _ h => h) ?_
    refine cw_seq ?_
    refine cw_region ?_
    refine ow_y (y_assign rfl) ?_
    refine ow_nil ?_
    refine kw_code (fun _ _ h => h) ?_
    refine cw_retG (fun _ _ h => h) rfl rfl aSp
end Go.Proofs.YthlclfdnhnnebaaGreatDoor
end
