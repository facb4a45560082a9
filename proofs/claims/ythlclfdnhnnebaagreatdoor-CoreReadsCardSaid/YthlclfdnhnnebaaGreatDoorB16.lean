/- Part of the proof; no statement of its own: D4, H8, C3F, C2F, C1F, C1. -/
import Derived.Test.YthlclfdnhnnebaaGreatDoorB08
import Derived.Test.YthlclfdnhnnebaaGreatDoorB15
import Derived.Test.YthlclfdnhnnebaaGreatDoorB06
import Derived.Test.YthlclfdnhnnebaaGreatDoorB07
import Derived.Test.YthlclfdnhnnebaaGreatDoorProg
import Derived.KernelRfl
import Derived.Test.YthlclfdnhnnebaaGreatDoorB04
import Derived.Test.YthlclfdnhnnebaaGreatDoorB10
set_option linter.all false
section
set_option maxRecDepth 4000
set_option maxHeartbeats 4000000
namespace Go.Proofs.YthlclfdnhnnebaaGreatDoor
open Go.Sl Go.Sb
theorem dspend_l {d d' : Dk} {o : Out Unit} (h : dspend d = (o, d')) : d'.l = d.l ∧ d'.left ≤ d.left := by
  unfold dspend at h
  split at h
  · cases h; exact ⟨rfl, Nat.le_refl _⟩
  · split at h
    · cases h; exact ⟨rfl, Nat.le_refl _⟩
    · split at h
      · cases h; exact ⟨rfl, Nat.le_refl _⟩
      · rename_i hl; cases h; exact ⟨rfl, by rw [hl]; exact Nat.le_succ _⟩
theorem dspend_big (d d' : Dk) : dspend d ≠ (.big, d') := by
  unfold dspend
  split
  · intro h; cases h
  · split
    · intro h; cases h
    · split <;> (intro h; cases h)
theorem padTo_len (n : Nat) (l : B) (h : l.length ≤ n) : (padTo n l).length = n := by simp [padTo, zeros]; omega
theorem write_ok {d d' : Dk} {i : Nat} {s : B} (h : DkOK d) (hl : d'.l = d.l ∧ d'.left ≤ d.left) (hs : s.length ≤ 64) (hi : i < d.l.length) : DkOK { d' with l := d'.l.set i ((d'.l.getD i ([], [])).1, padTo 64 s) } := by
  obtain ⟨h1, h2, h3⟩ := h
  refine ⟨fun x hx => ?_, by simp [hl.1, h2], by show d'.left < _; omega⟩
  simp only [hl.1] at hx
  rcases List.mem_or_eq_of_mem_set hx with hx | rfl
  · exact h1 x hx
  · have : d.l.getD i ([], []) ∈ d.l := by
      rw [List.getD_eq_getElem?_getD, List.getElem?_eq_getElem hi]; exact List.getElem_mem hi
    exact ⟨(h1 _ this).1, padTo_len 64 s hs⟩
theorem spend_ok {d d' : Dk} {o : Out Unit} (h : DkOK d) (hd : dspend d = (o, d')) : DkOK d' := by
  have := dspend_l hd
  exact ⟨by rw [this.1]; exact h.1, by rw [this.1]; exact h.2.1, by have := h.2.2; omega⟩
theorem dwrite_spec (a : Ad) (d : Dk) (at_ : Int) (s : B) (hs : s.length ≤ 1000000) : Does Tryz.prog 209 #[ptr a.disk, .int .i64 at_, strV s] (dk3 a d) (Ran fT (dk3 a) unitV (dwrite d at_ s)) := by
  by_cases h1 : d.dead = true
  · have e : dwrite d at_ s = (.err 12, d) := by simp [dwrite, h1]
    rw [e]
    refine does_enter Tryz.func209 rfl Tryz.ntmps209 rfl (fun R w0 => ?_)
    simp only [envOf, List.cons_append, List.nil_append]
    refine cw_seq ?_
    refine cw_region ?_
    refine ow_y (y_move rfl) ?_
    refine ow_fails rfl F.hb216 rfl (alive_no a d h1) aSp ?_
    simp only [List.cons_append, List.nil_append]
    repeat (first | with_reducible refine kw_inBlock_panic ?_ | with_reducible refine kw_then_panic ?_)
    refine kw_panic (fun _ _ h => h) (Split.back aSp) ⟨rfl, rfl⟩
  · have h1' : d.dead = false := by simpa using h1
    by_cases h2 : at_ < 0 ∨ (d.l.length : Int) ≤ at_
    · have e : dwrite d at_ s = (.err 6, d) := by simp [dwrite, h1', h2]
      rw [e]
      refine does_enter Tryz.func209 rfl Tryz.ntmps209 rfl (fun R w0 => ?_)
      simp only [envOf, List.cons_append, List.nil_append]
      refine cw_seq ?_
      refine cw_region ?_
      refine ow_y (y_move rfl) ?_
      refine ow_gives rfl F.hb216 rfl (alive_ok a d h1') aSp ?_
      try simp only [List.cons_append, List.nil_append]
      refine ow_nil ?_
      refine kw_code (fun _ _ h => h) ?_
      refine cw_seq ?_
      refine cw_region ?_
      refine ow_y (y_move rfl) ?_
      refine ow_y (y_move rfl) ?_
      refine ow_fails rfl F.hb217 rfl (check_no a d at_ h2) aSp ?_
      simp only [List.cons_append, List.nil_append]
      repeat (first | with_reducible refine kw_inBlock_panic ?_ | with_reducible refine kw_then_panic ?_)
      refine kw_panic (fun _ _ h => h) (Split.back aSp) ⟨rfl, rfl⟩
    · by_cases h3 : 64 < s.length
      · have e : dwrite d at_ s = (.err 3, d) := by simp [dwrite, h1', h2, h3]
        rw [e]
        refine does_enter Tryz.func209 rfl Tryz.ntmps209 rfl (fun R w0 => ?_)
        simp only [envOf, List.cons_append, List.nil_append]
        refine cw_seq ?_
        refine cw_region ?_
        refine ow_y (y_move rfl) ?_
        refine ow_gives rfl F.hb216 rfl (alive_ok a d h1') aSp ?_
        try simp only [List.cons_append, List.nil_append]
        refine ow_nil ?_
        refine kw_code (fun _ _ h => h) ?_
        refine cw_seq ?_
        refine cw_region ?_
        refine ow_y (y_move rfl) ?_
        refine ow_y (y_move rfl) ?_
        refine ow_gives rfl F.hb217 rfl (check_ok a d at_ h2) aSp ?_
        try simp only [List.cons_append, List.nil_append]
        refine ow_nil ?_
        refine kw_code (fun _ _ h => h) ?_
        refine cw_seq ?_
        refine cw_region ?_
        refine (ow_alloc F.z186 (fun b6 => ?_))
        refine ow_nil ?_
        refine kw_code (fun _ _ h => h) ?_
        refine cw_seq ?_
        refine cw_said (fun w h => sat_row_nil 5 1 w h) ?_
        refine cw_region ?_
        refine ow_y (y_move rfl) ?_
        refine ow_givesE rfl F.hb109 rfl (otextB b6 (.slice none 0 0) [] s (by simp) hs rfl) aSp ?_
        rintro v13 hv13
        try simp only [List.cons_append, List.nil_append]
        refine ow_fails rfl F.hb210 rfl (ofill_no b6 v13 s 64 h3 hv13) aSp ?_
        simp only [List.cons_append, List.nil_append]
        repeat (first | with_reducible refine kw_inBlock_panic ?_ | with_reducible refine kw_then_panic ?_)
        refine kw_panic (fun _ _ h => h) (Split.back aSp) ⟨rfl, rfl⟩
      · have hat := sec_at (at_ok h2)
        have hlt : at_.toNat < d.l.length := by omega
        have hsp := spend_spec a d
        cases hd : dspend d with
        | mk x d' =>
        have hl := dspend_l hd
        cases x with
        | big => exact (dspend_big _ _ hd).elim
        | err e' =>
          have e : dwrite d at_ s = (.err e', d') := by simp only [dwrite, h1', h2, h3, hd, if_false]; rfl
          rw [e]
          refine does_enter Tryz.func209 rfl Tryz.ntmps209 rfl (fun R w0 => ?_)
          simp only [envOf, List.cons_append, List.nil_append]
          refine cw_fact aFd fun hdk => ?_
          have hsp' := hsp hdk.2.2
          rw [hd] at hsp'
          refine cw_seq ?_
          refine cw_region ?_
          refine ow_y (y_move rfl) ?_
          refine ow_gives rfl F.hb216 rfl (alive_ok a d h1') aSp ?_
          try simp only [List.cons_append, List.nil_append]
          refine ow_nil ?_
          refine kw_code (fun _ _ h => h) ?_
          refine cw_seq ?_
          refine cw_region ?_
          refine ow_y (y_move rfl) ?_
          refine ow_y (y_move rfl) ?_
          refine ow_gives rfl F.hb217 rfl (check_ok a d at_ h2) aSp ?_
          try simp only [List.cons_append, List.nil_append]
          refine ow_nil ?_
          refine kw_code (fun _ _ h => h) ?_
          refine cw_seq ?_
          refine cw_region ?_
          refine (ow_alloc F.z186 (fun b6 => ?_))
          refine ow_nil ?_
          refine kw_code (fun _ _ h => h) ?_
          refine cw_seq ?_
          refine cw_said (fun w h => sat_row_nil 5 1 w h) ?_
          refine cw_region ?_
          refine ow_y (y_move rfl) ?_
          refine ow_givesE rfl F.hb109 rfl (otextB b6 (.slice none 0 0) [] s (by simp) hs rfl) aSp ?_
          rintro v13 hv13
          try simp only [List.cons_append, List.nil_append]
          refine ow_givesE rfl F.hb210 rfl (ofill_ok b6 v13 s 64 (by omega) (by omega) hv13) aSp ?_
          rintro v14 hv14
          try simp only [List.cons_append, List.nil_append]
          refine ow_gives rfl F.hb110 rfl (obytes_spec b6 v14 (padTo 64 s) hv14) aSp ?_
          try simp only [List.cons_append, List.nil_append]
          refine ow_y (y_assign rfl) ?_
          refine ow_nil ?_
          refine kw_code (fun _ _ h => h) ?_
          refine cw_seq ?_
          refine cw_region ?_
          refine ow_y (y_move rfl) ?_
          refine ow_fails rfl F.hb262 rfl (hsp') aSp ?_
          simp only [List.cons_append, List.nil_append]
          repeat (first | with_reducible refine kw_inBlock_panic ?_ | with_reducible refine kw_then_panic ?_)
          refine kw_said (sat_mkfact (spend_ok hdk hd)) (kw_panic (fun _ _ h => h) (Split.back (by show Split _ [R, dkC a d', dkR a d', fact (DkOK d')] _; rw [show dkR a d' = dkR a d by simp only [dkR, hl.1]]; exact aSp)) ⟨rfl, rfl⟩)
        | ok x =>
          have e : dwrite d at_ s = (.ok (), { d' with l := d'.l.set at_.toNat ((d'.l.getD at_.toNat ([], [])).1, padTo 64 s) }) := by simp only [dwrite, h1', h2, h3, hd, if_false]; rfl
          have hset := sec_set d.l at_.toNat (d.l.getD at_.toNat ([], [])) (padTo 64 s) (at_ok h2)
          rw [e]
          refine does_enter Tryz.func209 rfl Tryz.ntmps209 rfl (fun R w0 => ?_)
          simp only [envOf, List.cons_append, List.nil_append]
          refine cw_fact aFd fun hdk => ?_
          have hsp' := hsp hdk.2.2
          rw [hd] at hsp'
          refine cw_seq ?_
          refine cw_region ?_
          refine ow_y (y_move rfl) ?_
          refine ow_gives rfl F.hb216 rfl (alive_ok a d h1') aSp ?_
          try simp only [List.cons_append, List.nil_append]
          refine ow_nil ?_
          refine kw_code (fun _ _ h => h) ?_
          refine cw_seq ?_
          refine cw_region ?_
          refine ow_y (y_move rfl) ?_
          refine ow_y (y_move rfl) ?_
          refine ow_gives rfl F.hb217 rfl (check_ok a d at_ h2) aSp ?_
          try simp only [List.cons_append, List.nil_append]
          refine ow_nil ?_
          refine kw_code (fun _ _ h => h) ?_
          refine cw_seq ?_
          refine cw_region ?_
          refine (ow_alloc F.z186 (fun b6 => ?_))
          refine ow_nil ?_
          refine kw_code (fun _ _ h => h) ?_
          refine cw_seq ?_
          refine cw_said (fun w h => sat_row_nil 5 1 w h) ?_
          refine cw_region ?_
          refine ow_y (y_move rfl) ?_
          refine ow_givesE rfl F.hb109 rfl (otextB b6 (.slice none 0 0) [] s (by simp) hs rfl) aSp ?_
          rintro v13 hv13
          try simp only [List.cons_append, List.nil_append]
          refine ow_givesE rfl F.hb210 rfl (ofill_ok b6 v13 s 64 (by omega) (by omega) hv13) aSp ?_
          rintro v14 hv14
          try simp only [List.cons_append, List.nil_append]
          refine ow_gives rfl F.hb110 rfl (obytes_spec b6 v14 (padTo 64 s) hv14) aSp ?_
          try simp only [List.cons_append, List.nil_append]
          refine ow_y (y_assign rfl) ?_
          refine ow_nil ?_
          refine kw_code (fun _ _ h => h) ?_
          refine cw_seq ?_
          refine cw_region ?_
          refine ow_y (y_move rfl) ?_
          refine ow_gives rfl F.hb262 rfl (hsp'.ran_ok) aSp ?_
          try simp only [List.cons_append, List.nil_append]
          refine ow_nil ?_
          refine kw_code (fun _ _ h => h) ?_
          refine cw_rowv aFd (by omega) fun b cap hv' hcap => ?_
          simp only [dkC, dkR]
          rw [hv']
          refine cw_region ?_
          refine ow_y (y_move rfl) ?_
          refine ow_y (y_nil rfl) ?_
          refine ow_y (y_fld F.fld147_0 rfl) ?_
          refine ow_y (y_load F.sc145 rfl (by rfl)) ?_
          refine ow_y (y_move rfl) ?_
          refine ow_y (y_move rfl) ?_
          refine ow_y (y_ixs F.sl145 rfl rfl (by omega)) ?_
          refine ow_y (y_fld F.fld149_1 rfl) ?_
          refine ow_storeRow (xs' := (d.l.set at_.toNat ((d.l.getD at_.toNat ([], [])).1, padTo 64 s)).flatMap secV) F.sz9 rfl rfl rfl aFd (by rw [sec_len]; omega) (by rw [← hset, show 0 + at_.toNat * 2 + 1 = 2 * at_.toNat + 1 by omega]) ?_
          refine ow_nil ?_
          rw [← hv']
          have hok2 := write_ok (i := at_.toNat) hdk hl (show s.length ≤ 64 by omega) hlt
          refine kw_said (sat_mkfact hok2) (kw_finR rfl rfl rfl (by show Split _ [R, dkC a d', rowA _ 2 a.vd (d'.l.set at_.toNat _).length (List.flatMap secV (d'.l.set at_.toNat _)), fact (DkOK _)] _; rw [List.length_set, hl.1]; exact aSp))
end Go.Proofs.YthlclfdnhnnebaaGreatDoor
end
section
set_option maxRecDepth 4000
set_option maxHeartbeats 4000000
namespace Go.Proofs.YthlclfdnhnnebaaGreatDoor
open Go.Sl Go.Sb
theorem hless_spec (W : World) (a : Ad) (s : St) (at_ : Int) (hnb : (hless at_ s).1 ≠ .big) : Does Tryz.prog 193 #[ptr a.heap, .int .i64 at_] (RS W a s) (Ran fT (RS W a) (fun b => .bool b) (hless at_ s)) := by
  have hi := hless_inR hnb
  by_cases h0 : refsOf s at_ = 0
  · rw [show hless at_ s = (.err 6, s) by simp [hless, hi, h0]]; exact hless_fail W a s at_ h0
  · by_cases h1 : refsOf s at_ = 1
    · obtain ⟨_, a1, a2, a3⟩ := hless_one hnb h1
      simp only at a3
      by_cases hy : 0 < youngOf s at_
      · rw [if_pos hy] at a3
        obtain ⟨b1, b2, b3, b4⟩ := a3
        rw [b4]; exact hless_young W a s at_ h1 hi a1 a2 hy b1 b2 b3
      · rw [if_neg hy] at a3
        rw [a3]; exact hless_old W a s at_ h1 hi a1 a2 hy
    · have e : hless at_ s = andThen (putRefs at_ (wrap64 (refsOf s at_ - 1))) (fun _ => ret false) s := by simp [hless, hi, h0, h1]
      rw [e] at hnb
      have hn := putRefs_big (big1 hnb)
      rw [e, andThen_ok (putRefs_eq _ _ hn)]
      exact hless_two W a s at_ h0 h1 hn
theorem takeL_ok {s : St} (hok : StOK s) : (takeL s.g).length ≤ 5000 ∧ (∀ x ∈ takeL s.g, x < 3) ∧ inR (takeAt s.fr s.g) = true := by
  have h2 := hok.2.1
  have h1 := hok.1
  unfold takeL takeAt
  cases hf : s.g.findIdx? (· == 0) with
  | none => exact ⟨h2, hok.2.2.1, rfl⟩
  | some i =>
    have hi : i < s.g.length := by
      rw [List.findIdx?_eq_some_iff_findIdx_eq] at hf; exact hf.1
    refine ⟨by simpa using h2, fun x hx => ?_, ?_⟩
    · rcases List.mem_or_eq_of_mem_set hx with h | rfl
      · exact hok.2.2.1 x h
      · omega
    · simp only [inR, decide_eq_true_eq]; omega
theorem putYoung_big {s : St} {k v : Int} (h : (putYoung k v s).1 ≠ .big) : s.log.length < 1000000000 := room_n h fun h' => by simp [putYoung, andThen, back, h']
abbrev pl1 (s : St) : List Step := bk s.depth s.log (.give (takeAt s.fr s.g))
abbrev pl2 (s : St) : List Step := bk s.depth (pl1 s) (.refs (takeAt s.fr s.g) (mget (takeAt s.fr s.g) s.refs))
abbrev pl3 (s : St) : List Step := bk s.depth (pl2 s) (.young (takeAt s.fr s.g) (mget (takeAt s.fr s.g) s.young))
abbrev ps (s : St) (d : Dk) : St := { s with d := d, g := takeL s.g, refs := mput (takeAt s.fr s.g) 1 s.refs, young := mput (takeAt s.fr s.g) 1 s.young, log := pl3 s }
theorem hput_eq {s : St} {b : B} (hnb : (hput b s).1 ≠ .big) (hf : ¬ (freeN s : Int) ≤ s.keep) : s.log.length < 1000000000 ∧ (pl1 s).length < 1000000000 ∧ (pl2 s).length < 1000000000 ∧
    hput b s = (match dwrite s.d (takeAt s.fr s.g) b with | (.ok _, d) => (.ok (takeAt s.fr s.g), ps s d) | (.err e, d) => (.err e, ps s d) | (.big, d) => (.big, ps s d)) := by
  have e : hput b s = andThen (fun s' => back (.give (takeAt s.fr s.g)) { s' with g := takeL s'.g }) (fun _ => andThen (putRefs (takeAt s.fr s.g) 1) fun _ => andThen (putYoung (takeAt s.fr s.g) 1) fun _ => andThen (onDisk fun d => dwrite d (takeAt s.fr s.g) b) fun _ => ret (takeAt s.fr s.g)) s := by
    simp only [hput, if_neg hf]
  rw [e] at hnb
  have a1 := back_big (big1 hnb)
  have e1 := back_eq (s := { s with g := takeL s.g }) (.give (takeAt s.fr s.g)) a1
  have b1 := big2 hnb e1
  have a2 := putRefs_big (big1 b1)
  have b2 := big2 b1 (putRefs_eq _ _ a2)
  have a3 := putYoung_big (big1 b2)
  refine ⟨a1, a2, a3, ?_⟩
  rw [e, andThen_ok (m := fun s' => back (.give (takeAt s.fr s.g)) { s' with g := takeL s'.g }) e1, andThen_ok (putRefs_eq _ _ a2), andThen_ok (putYoung_eq _ _ a3)]
  simp only [andThen, onDisk]
  cases hd : dwrite s.d (takeAt s.fr s.g) b with
  | mk x d =>
    cases x <;> simp only [hd, ret] <;> rfl
theorem dwrite_big (d d' : Dk) (x : Int) (b : B) : dwrite d x b ≠ (.big, d') := by
  unfold dwrite
  split
  · intro h; cases h
  · split
    · intro h; cases h
    · split
      · intro h; cases h
      · split
        · intro h; cases h
        · rename_i h; exact (dspend_big _ _ h).elim
        · intro h; cases h
theorem give_spec (a : Ad) (k : Int) : Does Tryz.prog 208 #[ptr a.heap, .int .i64 k] [] (GivesE (fun _ : Nat × Nat => True) (fun x => .func (.func 261) #[] #[ptr x.1, ptr x.2]) (fun x => [pts x.1 (.cells #[ptr a.heap] 62 (0, 0)), pts x.2 (.cells #[.int .i64 k] 3 (0, 0))])) := by
  refine does_enter Tryz.func208 rfl Tryz.ntmps208 rfl (fun R w0 => ?_)
  simp only [envOf, List.cons_append, List.nil_append]
  refine cw_seq ?_
  refine cw_region ?_
  refine (ow_box rfl (fun b2 => ?_))
  refine (ow_box rfl (fun b3 => ?_))
  refine ow_y (y_assign rfl) ?_
  refine ow_nil ?_
  refine kw_code (fun _ _ h => h) ?_
  refine cw_seq ?_
  refine cw_region ?_
  refine ow_y (y_func rfl rfl rfl) ?_
  refine ow_y (y_assign rfl) ?_
  refine ow_nil ?_
  refine kw_code (fun _ _ h => h) ?_
  refine cw_retE (b2, b3) trivial (fun _ _ h => h) rfl rfl aSp
theorem gtake2 (b bl : Nat) (s : St) (hok : StOK s) : Does Tryz.prog 207 #[.pointer (some ⟨b, 0, none⟩)] (gm b bl s.fr s.g) (GivesE (fun _ : Bool => True) (fun x => .tuple #[.int .i64 (takeAt s.fr s.g), .bool x]) (fun _ => gm b bl s.fr (takeL s.g))) := by
  have h := gtake_spec b bl s.fr s.g hok.1 hok.2.1
  unfold takeAt takeL
  cases hf : s.g.findIdx? (· == 0) with
  | none => rw [hf] at h; exact does_giveE false trivial rfl rfl h
  | some i => rw [hf] at h; exact does_giveE true trivial rfl rfl h
theorem hput_spec (W : World) (a : Ad) (s : St) (b : B) (hb : b.length ≤ 1000000) (hnb : (hput b s).1 ≠ .big) : Does Tryz.prog 176 #[ptr a.heap, strV b] (RS W a s) (Ran fT (RS W a) intV (hput b s)) := by
  by_cases hf : (freeN s : Int) ≤ s.keep
  · rw [show hput b s = (.err 8, s) by simp [hput, hf]]
    refine does_enter Tryz.func176 rfl Tryz.ntmps176 rfl (fun R w0 => ?_)
    simp only [envOf, List.cons_append, List.nil_append]
    refine cw_hl aFd fun by_ gv gc o hg hok => ?_
    simp only [openTT, hcells, List.cons_append, List.nil_append]
    refine cw_seq ?_
    refine cw_region ?_
    refine ow_y (y_assign rfl) ?_
    refine ow_nil ?_
    refine kw_code (fun _ _ h => h) ?_
    refine cw_seq ?_
    refine cw_seq ?_
    refine cw_mix (.soft 0 (.soft 1 (.soft 2 (.soft 3 (.soft 5 (.soft 6 (.soft 7 (.soft 8 (.hard 4 (.soft 9 .done)))))))))) [pts a.heap (.cells #[ptr a.disk, ptr a.log, ptr a.gr, .map (some a.refs), .map (some by_), gv, .int .i64 s.keep] 144 (0, 0))] F.fol (by kernel_rfl) (by repeat (first | with_reducible exact NoSlots.bp | with_reducible apply NoSlots.then | with_reducible apply NoSlots.inBlock)) aSp ?_
    refine om_y rfl (y_move rfl) ?_
    refine om_y rfl (y_nil rfl) ?_
    refine om_y rfl (y_fld F.fld144_2 rfl) ?_
    refine om_y rfl (y_load F.sc140 rfl (by rfl)) ?_
    refine om_y rfl (y_move rfl) ?_
    refine om_y rfl (y_nil rfl) ?_
    refine om_y rfl (y_fld F.fld144_6 rfl) ?_
    refine om_y rfl (y_load F.sc3 rfl (by rfl)) ?_
    refine om_h rfl ?_
    refine ow_gives rfl F.hb124 rfl (gFree_spec a.gr a.grl s.fr s.g) aSp ?_
    try simp only [List.cons_append, List.nil_append]
    refine ow_nil ?_
    refine om_next aSp ?_
    refine om_y rfl (y_leq rfl rfl) ?_
    refine om_nil ?_
    refine kw_code (fun _ _ h => h) ?_
    refine cw_true rfl (decide_eq_true hf) ?_
    refine cw_region ?_
    refine ow_fails rfl F.hb29 rfl (fail_spec 8) aSp ?_
    simp only [List.cons_append, List.nil_append]
    repeat (first | with_reducible refine kw_inBlock_panic ?_ | with_reducible refine kw_then_panic ?_)
    refine kw_said (sat_hl hg hok aSp) (kw_panic (fun _ _ h => h) (Split.back aSp) ⟨rfl, rfl⟩)
  · obtain ⟨hn, hn1, hn2, he⟩ := hput_eq hnb hf
    have hw := dwrite_spec a s.d (takeAt s.fr s.g) b hb
    rw [he]
    refine does_enter Tryz.func176 rfl Tryz.ntmps176 rfl (fun R w0 => ?_)
    simp only [envOf, List.cons_append, List.nil_append]
    refine cw_hl aFd fun by_ gv gc o hg hok => ?_
    have htk := takeL_ok hok
    have hok2 : ∀ d, StOK (ps s d) := fun d => ⟨hok.1, htk.1, htk.2.1, hok.2.2.2⟩
    simp only [openTT, hcells, List.cons_append, List.nil_append]
    cases hd : dwrite s.d (takeAt s.fr s.g) b with
    | mk x d =>
    rw [hd] at hw
    cases x with
    | big => exact (dwrite_big _ _ _ _ hd).elim
    | ok x =>
      refine cw_seq ?_
      refine cw_region ?_
      refine ow_y (y_assign rfl) ?_
      refine ow_nil ?_
      refine kw_code (fun _ _ h => h) ?_
      refine cw_seq ?_
      refine cw_seq ?_
      refine cw_mix (.soft 0 (.soft 1 (.soft 2 (.soft 3 (.soft 5 (.soft 6 (.soft 7 (.soft 8 (.hard 4 (.soft 9 .done)))))))))) [pts a.heap (.cells #[ptr a.disk, ptr a.log, ptr a.gr, .map (some a.refs), .map (some by_), gv, .int .i64 s.keep] 144 (0, 0))] F.fol (by kernel_rfl) (by repeat (first | with_reducible exact NoSlots.bp | with_reducible apply NoSlots.then | with_reducible apply NoSlots.inBlock)) aSp ?_
      refine om_y rfl (y_move rfl) ?_
      refine om_y rfl (y_nil rfl) ?_
      refine om_y rfl (y_fld F.fld144_2 rfl) ?_
      refine om_y rfl (y_load F.sc140 rfl (by rfl)) ?_
      refine om_y rfl (y_move rfl) ?_
      refine om_y rfl (y_nil rfl) ?_
      refine om_y rfl (y_fld F.fld144_6 rfl) ?_
      refine om_y rfl (y_load F.sc3 rfl (by rfl)) ?_
      refine om_h rfl ?_
      refine ow_gives rfl F.hb124 rfl (gFree_spec a.gr a.grl s.fr s.g) aSp ?_
      try simp only [List.cons_append, List.nil_append]
      refine ow_nil ?_
      refine om_next aSp ?_
      refine om_y rfl (y_leq rfl rfl) ?_
      refine om_nil ?_
      refine kw_code (fun _ _ h => h) ?_
      refine cw_false rfl (decide_eq_false hf) ?_
      refine cw_skip ?_
      refine kw_code (fun _ _ h => h) ?_
      refine cw_seq ?_
      refine cw_region ?_
      refine ow_y (y_move rfl) ?_
      refine ow_y (y_nil rfl) ?_
      refine ow_y (y_fld F.fld144_2 rfl) ?_
      refine ow_y (y_load F.sc140 rfl (by rfl)) ?_
      refine ow_givesE rfl F.hb207 rfl (gtake2 a.gr a.grl s hok) aSp ?_
      rintro tb _
      try simp only [List.cons_append, List.nil_append]
      refine ow_y (y_move rfl) ?_
      refine ow_y (y_ext rfl rfl) ?_
      refine ow_y (y_ext rfl rfl) ?_
      refine ow_y (y_assign rfl) ?_
      refine ow_y (y_assign rfl) ?_
      refine ow_nil ?_
      refine kw_code (fun _ _ h => h) ?_
      refine cw_seq ?_
      refine cw_mix (.soft 0 (.soft 1 (.soft 2 (.soft 3 (.soft 4 (.soft 5 (.hard 6 (.hard 7 .done)))))))) [pts a.heap (.cells #[ptr a.disk, ptr a.log, ptr a.gr, .map (some a.refs), .map (some by_), gv, .int .i64 s.keep] 144 (0, 0))] F.fol (by kernel_rfl) (by repeat (first | with_reducible exact NoSlots.bp | with_reducible apply NoSlots.then | with_reducible apply NoSlots.inBlock)) aSp ?_
      refine om_y rfl (y_move rfl) ?_
      refine om_y rfl (y_nil rfl) ?_
      refine om_y rfl (y_fld F.fld144_1 rfl) ?_
      refine om_y rfl (y_load F.sc136 rfl (by rfl)) ?_
      refine om_y rfl (y_move rfl) ?_
      refine om_y rfl (y_move rfl) ?_
      refine om_h rfl ?_
      refine ow_givesE rfl F.hb208 rfl (give_spec a (takeAt s.fr s.g)) aSp ?_
      rintro ⟨b1, b2⟩ _
      try simp only [List.cons_append, List.nil_append]
      refine ow_nil ?_
      refine om_next aSp ?_
      refine om_h rfl ?_
      refine ow_gives rfl F.hb127 rfl (back2 a by_ o s.log s.depth (.give (takeAt s.fr s.g)) _ ⟨htk.2.2, _, _, rfl, rfl⟩ hn) aSp ?_
      try simp only [List.cons_append, List.nil_append]
      refine ow_nil ?_
      refine om_next aSp ?_
      refine om_nil ?_
      refine kw_code (fun _ _ h => h) ?_
      refine cw_seq ?_
      refine cw_tail 9 F.fol (by kernel_rfl) ?_
      simp only [List.take_succ_cons, List.take_zero, List.drop_succ_cons, List.drop_zero]
      refine os_y (y_move rfl) ?_
      refine os_y (y_nil rfl) ?_
      refine os_y (y_fld F.fld144_1 rfl) ?_
      refine os_y (y_load F.sc136 rfl (by rfl)) ?_
      refine os_y (y_move rfl) ?_
      refine os_y (y_nil rfl) ?_
      refine os_y (y_fld F.fld144_3 rfl) ?_
      refine os_y (y_load F.sc142 rfl (by rfl)) ?_
      refine os_y (y_move rfl) ?_
      refine os_nil ?_
      refine ow_givesE rfl F.hb206 rfl (putInt_spec a by_ _ (pl1 s) s.depth a.refs s.refs (takeAt s.fr s.g) 1 (.refs _ _) hn1 (fun _ _ _ _ => ⟨_, _, _, _, .inl rfl, rfl⟩)) aSp ?_
      rintro e1 _
      try simp only [List.cons_append, List.nil_append]
      refine ow_nil ?_
      refine kw_code (fun _ _ h => h) ?_
      refine cw_seq ?_
      refine cw_tail 9 F.fol (by kernel_rfl) ?_
      simp only [List.take_succ_cons, List.take_zero, List.drop_succ_cons, List.drop_zero]
      refine os_y (y_move rfl) ?_
      refine os_y (y_nil rfl) ?_
      refine os_y (y_fld F.fld144_1 rfl) ?_
      refine os_y (y_load F.sc136 rfl (by rfl)) ?_
      refine os_y (y_move rfl) ?_
      refine os_y (y_nil rfl) ?_
      refine os_y (y_fld F.fld144_4 rfl) ?_
      refine os_y (y_load F.sc142 rfl (by rfl)) ?_
      refine os_y (y_move rfl) ?_
      refine os_nil ?_
      refine ow_givesE rfl F.hb206 rfl (putInt_spec a by_ _ (pl2 s) s.depth by_ s.young (takeAt s.fr s.g) 1 (.young _ _) hn2 (fun _ _ _ _ => ⟨_, _, _, _, .inl rfl, rfl⟩)) aSp ?_
      rintro e2 _
      try simp only [List.cons_append, List.nil_append]
      refine ow_nil ?_
      refine kw_code (fun _ _ h => h) ?_
      refine cw_seq ?_
      refine cw_region ?_
      refine ow_y (y_move rfl) ?_
      refine ow_y (y_nil rfl) ?_
      refine ow_y (y_fld F.fld144_0 rfl) ?_
      refine ow_y (y_load F.sc64 rfl (by rfl)) ?_
      refine ow_y (y_move rfl) ?_
      refine ow_y (y_move rfl) ?_
      refine ow_gives rfl F.hb209 rfl (hw.ran_ok) aSp ?_
      try simp only [List.cons_append, List.nil_append]
      refine ow_nil ?_
      refine kw_code (fun _ _ h => h) ?_
      refine cw_seq ?_
      refine cw_region ?_
      refine ow_y (y_move rfl) ?_
      refine ow_y (y_assign rfl) ?_
      refine ow_nil ?_
      refine kw_code (fun _ _ h => h) ?_
      refine cw_said (sat_hl (s := ps s d) hg (hok2 d) aSp) (cw_retR rfl (fun _ _ h => h) rfl rfl aSp)
    | err e =>
      refine cw_seq ?_
      refine cw_region ?_
      refine ow_y (y_assign rfl) ?_
      refine ow_nil ?_
      refine kw_code (fun _ _ h => h) ?_
      refine cw_seq ?_
      refine cw_seq ?_
      refine cw_mix (.soft 0 (.soft 1 (.soft 2 (.soft 3 (.soft 5 (.soft 6 (.soft 7 (.soft 8 (.hard 4 (.soft 9 .done)))))))))) [pts a.heap (.cells #[ptr a.disk, ptr a.log, ptr a.gr, .map (some a.refs), .map (some by_), gv, .int .i64 s.keep] 144 (0, 0))] F.fol (by kernel_rfl) (by repeat (first | with_reducible exact NoSlots.bp | with_reducible apply NoSlots.then | with_reducible apply NoSlots.inBlock)) aSp ?_
      refine om_y rfl (y_move rfl) ?_
      refine om_y rfl (y_nil rfl) ?_
      refine om_y rfl (y_fld F.fld144_2 rfl) ?_
      refine om_y rfl (y_load F.sc140 rfl (by rfl)) ?_
      refine om_y rfl (y_move rfl) ?_
      refine om_y rfl (y_nil rfl) ?_
      refine om_y rfl (y_fld F.fld144_6 rfl) ?_
      refine om_y rfl (y_load F.sc3 rfl (by rfl)) ?_
      refine om_h rfl ?_
      refine ow_gives rfl F.hb124 rfl (gFree_spec a.gr a.grl s.fr s.g) aSp ?_
      try simp only [List.cons_append, List.nil_append]
      refine ow_nil ?_
      refine om_next aSp ?_
      refine om_y rfl (y_leq rfl rfl) ?_
      refine om_nil ?_
      refine kw_code (fun _ _ h => h) ?_
      refine cw_false rfl (decide_eq_false hf) ?_
      refine cw_skip ?_
      refine kw_code (fun _ _ h => h) ?_
      refine cw_seq ?_
      refine cw_region ?_
      refine ow_y (y_move rfl) ?_
      refine ow_y (y_nil rfl) ?_
      refine ow_y (y_fld F.fld144_2 rfl) ?_
      refine ow_y (y_load F.sc140 rfl (by rfl)) ?_
      refine ow_givesE rfl F.hb207 rfl (gtake2 a.gr a.grl s hok) aSp ?_
      rintro tb _
      try simp only [List.cons_append, List.nil_append]
      refine ow_y (y_move rfl) ?_
      refine ow_y (y_ext rfl rfl) ?_
      refine ow_y (y_ext rfl rfl) ?_
      refine ow_y (y_assign rfl) ?_
      refine ow_y (y_assign rfl) ?_
      refine ow_nil ?_
      refine kw_code (fun _ _ h => h) ?_
      refine cw_seq ?_
      refine cw_mix (.soft 0 (.soft 1 (.soft 2 (.soft 3 (.soft 4 (.soft 5 (.hard 6 (.hard 7 .done)))))))) [pts a.heap (.cells #[ptr a.disk, ptr a.log, ptr a.gr, .map (some a.refs), .map (some by_), gv, .int .i64 s.keep] 144 (0, 0))] F.fol (by kernel_rfl) (by repeat (first | with_reducible exact NoSlots.bp | with_reducible apply NoSlots.then | with_reducible apply NoSlots.inBlock)) aSp ?_
      refine om_y rfl (y_move rfl) ?_
      refine om_y rfl (y_nil rfl) ?_
      refine om_y rfl (y_fld F.fld144_1 rfl) ?_
      refine om_y rfl (y_load F.sc136 rfl (by rfl)) ?_
      refine om_y rfl (y_move rfl) ?_
      refine om_y rfl (y_move rfl) ?_
      refine om_h rfl ?_
      refine ow_givesE rfl F.hb208 rfl (give_spec a (takeAt s.fr s.g)) aSp ?_
      rintro ⟨b1, b2⟩ _
      try simp only [List.cons_append, List.nil_append]
      refine ow_nil ?_
      refine om_next aSp ?_
      refine om_h rfl ?_
      refine ow_gives rfl F.hb127 rfl (back2 a by_ o s.log s.depth (.give (takeAt s.fr s.g)) _ ⟨htk.2.2, _, _, rfl, rfl⟩ hn) aSp ?_
      try simp only [List.cons_append, List.nil_append]
      refine ow_nil ?_
      refine om_next aSp ?_
      refine om_nil ?_
      refine kw_code (fun _ _ h => h) ?_
      refine cw_seq ?_
      refine cw_tail 9 F.fol (by kernel_rfl) ?_
      simp only [List.take_succ_cons, List.take_zero, List.drop_succ_cons, List.drop_zero]
      refine os_y (y_move rfl) ?_
      refine os_y (y_nil rfl) ?_
      refine os_y (y_fld F.fld144_1 rfl) ?_
      refine os_y (y_load F.sc136 rfl (by rfl)) ?_
      refine os_y (y_move rfl) ?_
      refine os_y (y_nil rfl) ?_
      refine os_y (y_fld F.fld144_3 rfl) ?_
      refine os_y (y_load F.sc142 rfl (by rfl)) ?_
      refine os_y (y_move rfl) ?_
      refine os_nil ?_
      refine ow_givesE rfl F.hb206 rfl (putInt_spec a by_ _ (pl1 s) s.depth a.refs s.refs (takeAt s.fr s.g) 1 (.refs _ _) hn1 (fun _ _ _ _ => ⟨_, _, _, _, .inl rfl, rfl⟩)) aSp ?_
      rintro e1 _
      try simp only [List.cons_append, List.nil_append]
      refine ow_nil ?_
      refine kw_code (fun _ _ h => h) ?_
      refine cw_seq ?_
      refine cw_tail 9 F.fol (by kernel_rfl) ?_
      simp only [List.take_succ_cons, List.take_zero, List.drop_succ_cons, List.drop_zero]
      refine os_y (y_move rfl) ?_
      refine os_y (y_nil rfl) ?_
      refine os_y (y_fld F.fld144_1 rfl) ?_
      refine os_y (y_load F.sc136 rfl (by rfl)) ?_
      refine os_y (y_move rfl) ?_
      refine os_y (y_nil rfl) ?_
      refine os_y (y_fld F.fld144_4 rfl) ?_
      refine os_y (y_load F.sc142 rfl (by rfl)) ?_
      refine os_y (y_move rfl) ?_
      refine os_nil ?_
      refine ow_givesE rfl F.hb206 rfl (putInt_spec a by_ _ (pl2 s) s.depth by_ s.young (takeAt s.fr s.g) 1 (.young _ _) hn2 (fun _ _ _ _ => ⟨_, _, _, _, .inl rfl, rfl⟩)) aSp ?_
      rintro e2 _
      try simp only [List.cons_append, List.nil_append]
      refine ow_nil ?_
      refine kw_code (fun _ _ h => h) ?_
      refine cw_seq ?_
      refine cw_region ?_
      refine ow_y (y_move rfl) ?_
      refine ow_y (y_nil rfl) ?_
      refine ow_y (y_fld F.fld144_0 rfl) ?_
      refine ow_y (y_load F.sc64 rfl (by rfl)) ?_
      refine ow_y (y_move rfl) ?_
      refine ow_y (y_move rfl) ?_
      refine ow_fails rfl F.hb209 rfl (hw) aSp ?_
      simp only [List.cons_append, List.nil_append]
      repeat (first | with_reducible refine kw_inBlock_panic ?_ | with_reducible refine kw_then_panic ?_)
      refine kw_said (sat_hl (s := ps s d) hg (hok2 d) aSp) (kw_panic (fun _ _ h => h) (Split.back aSp) ⟨rfl, rfl⟩)
end Go.Proofs.YthlclfdnhnnebaaGreatDoor
end
section
namespace Go.Proofs.YthlclfdnhnnebaaGreatDoor
open Go
end Go.Proofs.YthlclfdnhnnebaaGreatDoor
end
section
namespace Go.Proofs.YthlclfdnhnnebaaGreatDoor
open Go
theorem F.ar248 : Sl.tyArray Tryz.prog 248 16 26 1 = true := by kernel_rfl
theorem F.hb182 : Sl.hasBody Tryz.prog 182 = true := by kernel_rfl
theorem F.sz248 : (match Tryz.prog.info? 248 with | some i => i.size == 16 | none => false) = true := by kernel_rfl
theorem F.z248 : (match Tryz.prog.info? 248 with | some i => i.zero | none => none) = some (.agg #[.int .u32 (0), .int .u32 (0), .int .u32 (0), .int .u32 (0), .int .u32 (0), .int .u32 (0), .int .u32 (0), .int .u32 (0), .int .u32 (0), .int .u32 (0), .int .u32 (0), .int .u32 (0), .int .u32 (0), .int .u32 (0), .int .u32 (0), .int .u32 (0)]) := by kernel_rfl
end Go.Proofs.YthlclfdnhnnebaaGreatDoor
end
section
namespace Go.Proofs.YthlclfdnhnnebaaGreatDoor
open Go
theorem F.ag248 : Sl.tyAgg Tryz.prog 248 16 = true := by kernel_rfl
end Go.Proofs.YthlclfdnhnnebaaGreatDoor
end
section
set_option maxRecDepth 4000
set_option maxHeartbeats 4000000
namespace Go.Proofs.YthlclfdnhnnebaaGreatDoor
open Go.Sl
theorem xor_u32 (a b : BitVec 32) : bits .xor .u32 (a.toNat : Int) (b.toNat : Int) = ((a ^^^ b).toNat : Int) := by
  simp only [bits, BitVec.ofInt_natCast, BitVec.ofNat_toNat, BitVec.setWidth_eq, IntKind.bits]
  rw [IntKind.wrap_u32]
  exact Int.emod_eq_of_lt (Int.natCast_nonneg _) (by have := (a ^^^ b).isLt; omega)
theorem and_u32 (a b : BitVec 32) : bits .and .u32 (a.toNat : Int) (b.toNat : Int) = ((a &&& b).toNat : Int) := by
  simp only [bits, BitVec.ofInt_natCast, BitVec.ofNat_toNat, BitVec.setWidth_eq, IntKind.bits]
  rw [IntKind.wrap_u32]
  exact Int.emod_eq_of_lt (Int.natCast_nonneg _) (by have := (a &&& b).isLt; omega)
def tabF (j : Nat) : Value := .int .u32 ((Crc.stpN 4 (BitVec.ofNat 32 j)).toNat : Int)
def tabL (i : Nat) : List Value := (List.range 16).map fun j => if j < i then tabF j else .int .u32 0
theorem tab_set (k : Nat) (hk : k < 16) (m : Nat) (hm : m = k) (v : Value) (hv : v = tabF k) : (tabL k).set m v = tabL (k + 1) := by
  subst hm; subst hv
  unfold tabL
  apply List.ext_getElem
  · simp
  · intro i h1 h2
    simp at h1
    rw [List.getElem_set]
    by_cases e : m = i
    · subst e; simp
    · simp [e]
      by_cases h : i < m
      · simp [h, show i < m + 1 by omega]
      · simp [h, show ¬ i < m + 1 by omega]
theorem tabL_one (k : Nat) : ∀ x ∈ tabL k, x.oneCell' = true := by
  intro x hx
  simp only [tabL, List.mem_map] at hx
  obtain ⟨j, _, rfl⟩ := hx
  split <;> rfl
theorem stp_walk (x : BitVec 32) : bits .xor .u32 ((x.toNat : Int) / 2 ^ Int.toNat 1) (bits .and .u32 2197175160 (IntKind.u32.wrap (0 - bits .and .u32 (x.toNat : Int) 1))) = ((Crc.stp x).toNat : Int) := by
  have h1 : bits .and .u32 (x.toNat : Int) 1 = ((x &&& 1#32).toNat : Int) := and_u32 x 1#32
  have h2 : ((x.toNat : Int) / (2 : Int) ^ Int.toNat 1) = ((x >>> 1).toNat : Int) := by simp [Nat.shiftRight_eq_div_pow]
  rw [h1, h2]
  have h0 : (x &&& 1#32).toNat = x.toNat % 2 := by rw [BitVec.toNat_and]; exact Nat.and_one_is_mod _
  have hb : x.getLsbD 0 = decide (x.toNat % 2 = 1) := by rw [BitVec.getLsbD, Nat.testBit_zero]
  rw [h0]
  rcases Nat.mod_two_eq_zero_or_one x.toNat with h | h
  · rw [h]
    have : bits .and .u32 2197175160 (IntKind.u32.wrap (0 - ((0 : Nat) : Int))) = ((0#32).toNat : Int) := by decide
    rw [this, xor_u32]; unfold Crc.stp; rw [hb]; simp [h]
  · rw [h]
    have : bits .and .u32 2197175160 (IntKind.u32.wrap (0 - ((1 : Nat) : Int))) = (Crc.poly.toNat : Int) := by decide
    rw [this, xor_u32]; unfold Crc.stp; rw [hb]; simp [h]
theorem stpN_succ (n : Nat) (x : BitVec 32) : Crc.stpN (n + 1) x = Crc.stp (Crc.stpN n x) := by
  rw [Crc.stpN_add]; rfl
theorem table_spec : Does Tryz.prog 182 #[] [] (Gives (.agg (tabL 16).toArray) []) := by
  refine does_enter Tryz.func182 rfl Tryz.ntmps182 rfl (fun R w0 => ?_)
  simp only [envOf, List.cons_append, List.nil_append]
  refine cw_seq ?_
  refine cw_region ?_
  refine (ow_alloc F.z248 (fun b0 => ?_))
  refine ow_nil ?_
  refine kw_code (fun _ _ h => h) ?_
  refine cw_seq ?_
  refine cw_region ?_
  refine (ow_alloc F.z248 (fun b1 => ?_))
  refine ow_nil ?_
  refine kw_code (fun _ _ h => h) ?_
  refine cw_seq ?_
  refine cw_seq ?_
  refine cw_region ?_
  refine ow_y (y_move rfl) ?_
  refine ow_nil ?_
  refine kw_code (fun _ _ h => h) ?_
  refine cw_block ?_
  refine cw_loop (X := {k : Nat // k ≤ 16}) (fun x => [(0, .pointer (some ⟨b0, 0, none⟩)), (1, .pointer (some ⟨b1, 0, none⟩)), (4, .int .i64 x.1)]) (fun x => [pts b1 (.cells (tabL x.1).toArray 248 (0, 0)), pts b0 (.cells (tabL 0).toArray 248 (0, 0)), R]) (fun x => 16 - x.1) ⟨0, by omega⟩ (by repeat (first | exact Sub.nil | refine Sub.cons rfl ?_)) aSp ?_
  rintro ⟨k, hk⟩ m0 hm0
  try simp only at hm0
  try dsimp only
  skip
  refine cw_seq ?_
  refine cw_region ?_
  refine ow_y (y_lss rfl rfl) ?_
  refine ow_nil ?_
  refine kw_code (fun _ _ h => h) ?_
  refine cw_seq ?_
  refine cw_if rfl (fun hb5 => ?_) (fun hb5 => ?_)
  · skip
    have hlt : k < 16 := by have := of_decide_eq_true hb5; omega
    refine cw_skip ?_
    refine kw_code (fun _ _ h => h) ?_
    refine cw_seq ?_
    refine cw_block ?_
    refine cw_seq ?_
    refine cw_region ?_
    refine ow_y (y_move rfl) ?_
    refine ow_y (y_assign rfl) ?_
    refine ow_nil ?_
    refine kw_code (fun _ _ h => h) ?_
    refine cw_seq ?_
    refine cw_region ?_
    refine ow_y (y_move rfl) ?_
    refine ow_y (y_conv F.ts3 F.in26 rfl) ?_
    refine ow_y (y_assign rfl) ?_
    refine ow_nil ?_
    have hw : IntKind.u32.wrap (k : Int) = ((Crc.stpN 0 (BitVec.ofNat 32 k)).toNat : Int) := by rw [IntKind.wrap_u32]; simp [Crc.stpN]
    rw [hw]
    refine kw_code (fun _ _ h => h) ?_
    refine cw_seq ?_
    refine cw_seq ?_
    refine cw_region ?_
    refine ow_y (y_move rfl) ?_
    refine ow_nil ?_
    refine kw_code (fun _ _ h => h) ?_
    refine cw_block ?_
    refine cw_loop (X := {j : Nat // j ≤ 4}) (fun x => [(0, .pointer (some ⟨b0, 0, none⟩)), (1, .pointer (some ⟨b1, 0, none⟩)), (4, .int .i64 k), (2, .int .i64 k), (3, .int .u32 ((Crc.stpN x.1 (BitVec.ofNat 32 k)).toNat : Int)), (9, .int .i64 x.1)]) (fun x => [pts b1 (.cells (tabL k).toArray 248 (0, 0)), pts b0 (.cells (tabL 0).toArray 248 (0, 0)), R]) (fun x => 4 - x.1) ⟨0, by omega⟩ (by repeat (first | exact Sub.nil | refine Sub.cons rfl ?_)) aSp ?_
    rintro ⟨j, hj⟩ m2 hm2
    try simp only at hm2
    try dsimp only
    skip
    refine cw_seq ?_
    refine cw_region ?_
    refine ow_y (y_lss rfl rfl) ?_
    refine ow_nil ?_
    refine kw_code (fun _ _ h => h) ?_
    refine cw_seq ?_
    refine cw_if rfl (fun hb10 => ?_) (fun hb10 => ?_)
    · skip
      have hjt : j < 4 := by have := of_decide_eq_true hb10; omega
      refine cw_skip ?_
      refine kw_code (fun _ _ h => h) ?_
      refine cw_seq ?_
      refine cw_block ?_
      refine cw_region ?_
      refine ow_y (y_move rfl) ?_
      refine ow_y (y_shr rfl rfl (by first | decide | (simp only [IntKind.bits]; omega))) ?_
      refine ow_y (y_move rfl) ?_
      refine ow_y (y_and rfl rfl) ?_
      refine ow_y (y_neg rfl) ?_
      refine ow_y (y_and rfl rfl) ?_
      refine ow_y (y_xor rfl rfl) ?_
      refine ow_y (y_assign rfl) ?_
      refine ow_nil ?_
      rw [stp_walk, ← stpN_succ]
      refine kw_code (fun _ _ h => h) ?_
      refine cw_region ?_
      refine ow_y (y_addI rfl rfl (by omega)) ?_
      refine ow_y (y_move rfl) ?_
      refine ow_nil ?_
      refine kw_rnd (fun _ _ h => h) (⟨j + 1, hjt⟩) (by first | omega | (simp only; omega)) (by repeat (first | exact Sub.nil | refine Sub.cons rfl ?_)) aSp
    · skip
      have hj4 : j = 4 := by have := of_decide_eq_false hb10; omega
      subst hj4
      refine cw_exit ?_
      refine kw_code (fun _ _ h => h) ?_
      refine cw_region ?_
      refine ow_y (y_move rfl) ?_
      refine ow_y (y_move rfl) ?_
      refine ow_y (y_ixa F.ar248 rfl rfl (by omega)) ?_
      refine ow_store F.sz26 rfl rfl rfl (by simp [tabL]; omega) (tab_set k hlt _ (by simp) _ rfl) ?_
      refine ow_nil ?_
      refine kw_code (fun _ _ h => h) ?_
      refine cw_region ?_
      refine ow_y (y_addI rfl rfl (by omega)) ?_
      refine ow_y (y_move rfl) ?_
      refine ow_nil ?_
      refine kw_rnd (fun _ _ h => h) (⟨k + 1, hlt⟩) (by first | omega | (simp only; omega)) (by repeat (first | exact Sub.nil | refine Sub.cons rfl ?_)) aSp
  · skip
    have hk4 : k = 16 := by have := of_decide_eq_false hb5; omega
    subst hk4
    refine cw_exit ?_
    refine kw_code (fun _ _ h => h) ?_
    refine cw_seq ?_
    refine cw_region ?_
    refine ow_y (y_loadAgg F.ag248 rfl (by simp [tabL]) (extract_all (by simp [tabL]))) ?_
    refine ow_storeAgg F.sz248 rfl rfl (by simp [tabL]) (fun x hx => tabL_one _ x (by simpa using hx)) (by simp [tabL]) (splice_all (by simp [tabL])) ?_
    refine ow_nil ?_
    refine kw_code (fun _ _ h => h) ?_
    refine cw_retGC (fun _ _ h => h) (RV.agg F.ag248 rfl (by simp [tabL]) (extract_all (by simp [tabL])) RV.nil) rfl aSp
end Go.Proofs.YthlclfdnhnnebaaGreatDoor
end
