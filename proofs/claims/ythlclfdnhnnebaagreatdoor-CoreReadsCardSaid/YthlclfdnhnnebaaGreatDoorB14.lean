/- Part of the proof; no statement of its own: H3, H4, H5, H6. -/
import Derived.Test.YthlclfdnhnnebaaGreatDoorB08
import Derived.Test.YthlclfdnhnnebaaGreatDoorB06
import Derived.Test.YthlclfdnhnnebaaGreatDoorB13
import Derived.Test.YthlclfdnhnnebaaGreatDoorB07
set_option linter.all false
section
set_option maxRecDepth 4000
set_option maxHeartbeats 4000000
namespace Go.Proofs.YthlclfdnhnnebaaGreatDoor
open Go.Sl Go.Sb
def gStep (fr : Nat) (g : List Nat) (x : Int) : List Nat := mvL fr (mvL fr g x 2 1) x 1 0
def gAt (s : St) (i : Nat) : List Nat := (s.gone.take i).foldl (gStep s.fr) s.g
theorem gAt_succ (s : St) (i : Nat) (h : i < s.gone.length) : gAt s (i + 1) = gStep s.fr (gAt s i) s.gone[i] := by
  unfold gAt; rw [List.take_succ, List.getElem?_eq_getElem h, List.foldl_append]; rfl
theorem gAt_ok (s : St) (hok : StOK s) (i : Nat) : (gAt s i).length = s.g.length ∧ ∀ x ∈ gAt s i, x < 3 := by
  unfold gAt
  generalize s.gone.take i = l
  have key : ∀ (l : List Int) (g : List Nat), (∀ x ∈ g, x < 3) → (l.foldl (gStep s.fr) g).length = g.length ∧ ∀ x ∈ l.foldl (gStep s.fr) g, x < 3 := by
    intro l
    induction l with
    | nil => intro g h; exact ⟨rfl, h⟩
    | cons y l ih =>
      intro g h
      have := ih (gStep s.fr g y) (mvL_mem (by omega) (mvL_mem (by omega) h))
      exact ⟨by rw [List.foldl_cons, this.1]; simp [gStep, mvL_len], this.2⟩
  exact key l s.g hok.2.2.1
theorem freeGone_eq (s : St) : freeGone s = { s with g := gAt s s.gone.length, gone := [] } := by simp [freeGone, gAt]; rfl
theorem sat_nostar {w : World} {M : List Asrt} (h : Sat w M) : Sat w (star [] :: M) := sat_star.2 h
theorem row_nth {cur : List Value} {l : List Int} (h : cur.take l.length = l.map intV) {i k : Nat} (hi : i < l.length) (hk : k = i) : nth cur k = some (.int .i64 l[i]) := by
  subst hk
  rw [nth_eq]
  have : (cur.take l.length)[k]? = some (intV l[k]) := by rw [h]; simp [hi]
  rw [List.getElem?_take_of_lt hi] at this
  exact this
theorem hfreeGone_spec (a : Ad) (s : St) : Does Tryz.prog 83 #[ptr a.heap] [HL a s] (Gives (.tuple #[]) [HL a (freeGone s)]) := by
  rw [freeGone_eq]
  refine does_enter Tryz.func83 rfl Tryz.ntmps83 rfl (fun R w0 => ?_)
  simp only [envOf, List.cons_append, List.nil_append]
  refine cw_hl aFd fun by_ gv gc o hg hok => ?_
  simp only [openTT, hcells, List.cons_append, List.nil_append]
  obtain ⟨hgr, ⟨hg0, rfl, rfl⟩ | ⟨g, cap, cur, rfl, hcap, hmx, hcl, htk, rfl⟩⟩ := hg
  · skip
    refine cw_seq ?_
    refine cw_seq ?_
    refine cw_region ?_
    refine ow_y (y_move rfl) ?_
    refine ow_y (y_nil rfl) ?_
    refine ow_y (y_fld F.fld144_5 rfl) ?_
    refine ow_y (y_load F.sc109 rfl (by rfl)) ?_
    refine ow_y (y_len_slice F.sl109 rfl) ?_
    refine ow_y (y_move rfl) ?_
    refine ow_nil ?_
    refine kw_code (fun _ _ h => h) ?_
    refine cw_block ?_
    refine cw_loop (X := Unit) (fun _ => [(0, ptr a.heap), (7, .slice none 0 0), (8, .int .i64 0), (9, .int .i64 0)]) (fun _ => [heapC a by_ (.slice none 0 0) s.keep, logO a by_ o s.log s.depth, star (cellsP []), mapP by_ intV intV s.young, mapP a.refs intV intV s.refs, mapP a.ix sumV intV s.index, mapP a.vols u32V entA s.vols, coreC a s.next s.epoch, pts a.gr (.cells (gcells s.fr a.grl s.g).toArray 198 (0, 0)), pts a.grl (.cells (s.g.map gst).toArray 3 (0, 0)), R]) (fun _ => 0) () (by repeat (first | exact Sub.nil | refine Sub.cons rfl ?_)) aSp ?_
    rintro x m0 hm0
    try simp only at hm0
    try dsimp only
    skip
    refine cw_seq ?_
    refine cw_region ?_
    refine ow_y (y_lss rfl rfl) ?_
    refine ow_nil ?_
    refine kw_code (fun _ _ h => h) ?_
    refine cw_seq ?_
    refine cw_false rfl (by first | rfl | exact decide_eq_false (by omega)) ?_
    refine cw_exit ?_
    refine kw_code (fun _ _ h => h) ?_
    refine cw_region ?_
    refine ow_y (y_move rfl) ?_
    refine ow_y (y_nil rfl) ?_
    refine ow_y (y_fld F.fld144_5 rfl) ?_
    refine (ow_store F.sz109 rfl rfl (by first | rfl | assumption) (by rfl) (by (try simp only [List.set_cons_zero, List.set_cons_succ, Nat.reduceAdd, Nat.reduceMul, Int.reduceToNat, Nat.zero_add, Nat.add_zero]); rfl) ?_)
    refine ow_nil ?_
    rw [show gAt s s.gone.length = s.g by simp [gAt, hg0]]
    refine kw_said (sat_hl (s := { s with g := s.g, gone := [] }) (gv := .slice none 0 0) (gc := []) ⟨by simp, .inl ⟨rfl, rfl, rfl⟩⟩ hok aSp) (kw_finG rfl rfl aSp)
  · try simp only [cellsP, List.map_cons, List.map_nil]
    refine cw_said (L' := pts g (.cells cur.toArray 3 (0, 0)) :: [heapC a by_ (.slice (some ⟨g, 0, none⟩) s.gone.length cap) s.keep, logO a by_ o s.log s.depth, mapP by_ intV intV s.young, mapP a.refs intV intV s.refs, mapP a.ix sumV intV s.index, mapP a.vols u32V entA s.vols, coreC a s.next s.epoch, pts a.gr (.cells (gcells s.fr a.grl (gAt s 0)).toArray 198 (0, 0)), pts a.grl (.cells ((gAt s 0).map gst).toArray 3 (0, 0)), R]) (fun w h => ?_) ?_
    · have h1 := sat_star.1 ((show Fnd _ (star _) _ from aFd).sat h)
      exact h1.re aSp
    have hgl := fun i => (gAt_ok s hok i).1
    have hm2 : s.gone.length ≤ 9223372036854775807 := by simp only [maxLen] at hmx; omega
    try simp only [hcells]
    refine cw_seq ?_
    refine cw_seq ?_
    refine cw_region ?_
    refine ow_y (y_move rfl) ?_
    refine ow_y (y_nil rfl) ?_
    refine ow_y (y_fld F.fld144_5 rfl) ?_
    refine ow_y (y_load F.sc109 rfl (by rfl)) ?_
    refine ow_y (y_len_slice F.sl109 rfl) ?_
    refine ow_y (y_move rfl) ?_
    refine ow_nil ?_
    refine kw_code (fun _ _ h => h) ?_
    refine cw_block ?_
    refine cw_loop (X := {i : Nat // i ≤ s.gone.length}) (fun x => [(0, ptr a.heap), (7, .slice (some ⟨g, 0, none⟩) s.gone.length cap), (8, .int .i64 s.gone.length), (9, .int .i64 x.1)]) (fun x => [pts g (.cells cur.toArray 3 (0, 0)), heapC a by_ (.slice (some ⟨g, 0, none⟩) s.gone.length cap) s.keep, logO a by_ o s.log s.depth, mapP by_ intV intV s.young, mapP a.refs intV intV s.refs, mapP a.ix sumV intV s.index, mapP a.vols u32V entA s.vols, coreC a s.next s.epoch] ++ gm a.gr a.grl s.fr (gAt s x.1) ++ [R]) (fun x => s.gone.length - x.1) ⟨0, by omega⟩ (by repeat (first | exact Sub.nil | refine Sub.cons rfl ?_)) aSp ?_
    rintro ⟨i, hi⟩ m0 hm0
    try simp only at hm0
    try dsimp only
    simp only [hcells, List.cons_append, List.nil_append]
    refine cw_seq ?_
    refine cw_region ?_
    refine ow_y (y_lss rfl rfl) ?_
    refine ow_nil ?_
    refine kw_code (fun _ _ h => h) ?_
    refine cw_seq ?_
    refine cw_if rfl (fun hb10 => ?_) (fun hb10 => ?_)
    · skip
      have hil : i < s.gone.length := by have := of_decide_eq_true hb10; omega
      have hlt : (gAt s i).length ≤ 5000 := by rw [hgl]; exact hok.2.1
      refine cw_skip ?_
      refine kw_code (fun _ _ h => h) ?_
      refine cw_seq ?_
      refine cw_block ?_
      refine cw_seq ?_
      refine cw_region ?_
      refine ow_y (y_ixs F.sl109 rfl rfl (by omega)) ?_
      refine ow_y (y_load F.sc3 rfl (row_nth htk hil (by omega))) ?_
      refine ow_y (y_assign rfl) ?_
      refine ow_nil ?_
      refine kw_code (fun _ _ h => h) ?_
      refine cw_seq ?_
      refine cw_region ?_
      refine ow_y (y_move rfl) ?_
      refine ow_y (y_nil rfl) ?_
      refine ow_y (y_fld F.fld144_2 rfl) ?_
      refine ow_y (y_load F.sc140 rfl (by rfl)) ?_
      refine ow_y (y_move rfl) ?_
      refine ow_gives rfl F.hb132 rfl (gback_spec a.gr a.grl s.fr (gAt s i) s.gone[i] (rangeR (hgr _ (List.getElem_mem hil))) hok.1 hlt) aSp ?_
      try simp only [List.cons_append, List.nil_append]
      refine ow_nil ?_
      refine kw_code (fun _ _ h => h) ?_
      refine cw_region ?_
      refine ow_y (y_move rfl) ?_
      refine ow_y (y_nil rfl) ?_
      refine ow_y (y_fld F.fld144_2 rfl) ?_
      refine ow_y (y_load F.sc140 rfl (by rfl)) ?_
      refine ow_y (y_move rfl) ?_
      refine ow_gives rfl F.hb133 rfl (ggive_spec a.gr a.grl s.fr (mvL s.fr (gAt s i) s.gone[i] 2 1) s.gone[i] (rangeR (hgr _ (List.getElem_mem hil))) hok.1 (by rw [mvL_len]; exact hlt)) aSp ?_
      try simp only [List.cons_append, List.nil_append]
      refine ow_nil ?_
      rw [show mvL s.fr (mvL s.fr (gAt s i) s.gone[i] 2 1) s.gone[i] 1 0 = gAt s (i + 1) from (gAt_succ s i hil).symm]
      refine kw_code (fun _ _ h => h) ?_
      refine cw_region ?_
      refine ow_y (y_addI rfl rfl (by omega)) ?_
      refine ow_y (y_move rfl) ?_
      refine ow_nil ?_
      refine kw_rnd (fun _ _ h => h) (⟨i + 1, hil⟩) (by first | omega | (simp only; omega)) (by repeat (first | exact Sub.nil | refine Sub.cons rfl ?_)) aSp
    · skip
      have hil : i = s.gone.length := by have := of_decide_eq_false hb10; omega
      subst hil
      have hok' : StOK { s with g := gAt s s.gone.length, gone := [] } := ⟨hok.1, by show (gAt s _).length ≤ _; rw [hgl]; exact hok.2.1, (gAt_ok s hok _).2, hok.2.2.2⟩
      refine cw_exit ?_
      refine kw_code (fun _ _ h => h) ?_
      refine cw_region ?_
      refine ow_y (y_move rfl) ?_
      refine ow_y (y_nil rfl) ?_
      refine ow_y (y_fld F.fld144_5 rfl) ?_
      refine (ow_store F.sz109 rfl rfl (by first | rfl | assumption) (by rfl) (by (try simp only [List.set_cons_zero, List.set_cons_succ, Nat.reduceAdd, Nat.reduceMul, Int.reduceToNat, Nat.zero_add, Nat.add_zero]); rfl) ?_)
      refine ow_nil ?_
      refine kw_said (fun w h => sat_nostar h) (kw_said (sat_hl (s := { s with g := gAt s s.gone.length, gone := [] }) (by_ := by_) (o := o) (gv := .slice none 0 0) (gc := []) ⟨by simp, .inl ⟨rfl, rfl, rfl⟩⟩ hok' aSp) (kw_finG rfl rfl aSp))
end Go.Proofs.YthlclfdnhnnebaaGreatDoor
end
section
set_option maxRecDepth 4000
set_option maxHeartbeats 4000000
namespace Go.Proofs.YthlclfdnhnnebaaGreatDoor
open Go.Sl Go.Sb
theorem tryL_noerr {C : Type} (run : Run (St × C) Unit) (x : St × C) (e : Int) (y : St × C) : tryL run x ≠ (.err e, y) := by
  unfold tryL
  split
  · intro h; cases h
  · split
    · split <;> (intro h; cases h)
    · split <;> (intro h; cases h)
    · intro h; cases h
theorem heapTry_spec {C : Type} (W : World) (a : Ad) (RC : C → Asrt) (g : FuncId) (cap : List Value) (run : Run (St × C) Unit) (s : St) (c : C) (hb : hasBody Tryz.prog g = true) (hnb : (tryR run (s, c)).1 ≠ .big)
    (hrun : (run ({ s with depth := s.depth + 1 }, c)).1 ≠ .big → Does Tryz.prog g cap.toArray (RS W a { s with depth := s.depth + 1 } ++ [RC c]) (Ran fT (fun x => RS W a x.1 ++ [RC x.2]) (fun _ => .tuple #[]) (run ({ s with depth := s.depth + 1 }, c)))) :
    Does Tryz.prog 33 #[ptr a.heap, .func (.func g) #[] cap.toArray] (RS W a s ++ [RC c]) (Ran fT (fun x => RS W a x.1 ++ [RC x.2]) (fun e => .int .i64 e) (tryR run (s, c))) := by
  have hl := logTry_spec W a RC g cap run s c hb (big1 hnb) hrun
  cases ho : tryL run (s, c) with
  | mk x y =>
  obtain ⟨t, c'⟩ := y
  rw [ho] at hl
  cases x with
  | big => exact (big1 hnb (by rw [ho])).elim
  | err e => exact (tryL_noerr _ _ _ _ ho).elim
  | ok e =>
    have hl' := hl.ran_ok
    by_cases h0 : t.depth = 0
    · have htr : tryR run (s, c) = (.ok e, (freeGone t, c')) := by simp [tryR, andThen, ho, h0]
      rw [htr]
      refine does_enter Tryz.func33 rfl Tryz.ntmps33 rfl (fun R w0 => ?_)
      simp only [envOf, List.cons_append, List.nil_append]
      refine cw_hl aFd fun by_ gv gc o hgo hok => ?_
      simp only [openTT, hcells, List.cons_append, List.nil_append]
      refine cw_seq ?_
      refine cw_region ?_
      refine ow_y (y_assign rfl) ?_
      refine ow_nil ?_
      refine kw_code (fun _ _ h => h) ?_
      refine cw_seq ?_
      skip
      refine cw_region ?_
      refine ow_y (y_move rfl) ?_
      refine ow_y (y_nil rfl) ?_
      refine ow_y (y_fld F.fld144_1 rfl) ?_
      refine ow_y (y_load F.sc136 rfl (by rfl)) ?_
      refine ow_y (y_move rfl) ?_
      refine ow_said (sat_hl hgo hok aSp) (ow_gives rfl F.hb81 rfl (hl') aSp ?_)
      simp only [List.cons_append, List.nil_append]
      refine ow_y (y_assign rfl) ?_
      refine ow_nil ?_
      refine kw_code (fun _ _ h => h) ?_
      refine cw_seq ?_
      refine cw_seq ?_
      refine cw_hl aFd fun by2 gv2 gc2 o2 hgo2 hok2 => ?_
      simp only [openTT, hcells, List.cons_append, List.nil_append]
      refine cw_region ?_
      refine ow_y (y_move rfl) ?_
      refine ow_y (y_nil rfl) ?_
      refine ow_y (y_fld F.fld144_1 rfl) ?_
      refine ow_y (y_load F.sc136 rfl (by rfl)) ?_
      refine ow_said (sat_hl hgo2 hok2 aSp) (ow_gives rfl F.hb82 rfl (deep_spec a t) aSp ?_)
      simp only [List.cons_append, List.nil_append]
      refine ow_y (y_eql rfl rfl) ?_
      refine ow_nil ?_
      refine kw_code (fun _ _ h => h) ?_
      refine cw_true rfl (by rw [h0]; rfl) ?_
      refine cw_region ?_
      refine ow_y (y_move rfl) ?_
      refine ow_gives rfl F.hb83 rfl (hfreeGone_spec a t) aSp ?_
      try simp only [List.cons_append, List.nil_append]
      refine ow_nil ?_
      refine kw_code (fun _ _ h => h) ?_
      refine cw_seq ?_
      refine cw_region ?_
      refine ow_y (y_move rfl) ?_
      refine ow_y (y_assign rfl) ?_
      refine ow_nil ?_
      refine kw_code (fun _ _ h => h) ?_
      refine cw_retR rfl (fun _ _ h => h) rfl rfl aSp
    · have htr : tryR run (s, c) = (.ok e, (t, c')) := by simp [tryR, andThen, ho, h0]
      rw [htr]
      refine does_enter Tryz.func33 rfl Tryz.ntmps33 rfl (fun R w0 => ?_)
      simp only [envOf, List.cons_append, List.nil_append]
      refine cw_hl aFd fun by_ gv gc o hgo hok => ?_
      simp only [openTT, hcells, List.cons_append, List.nil_append]
      refine cw_seq ?_
      refine cw_region ?_
      refine ow_y (y_assign rfl) ?_
      refine ow_nil ?_
      refine kw_code (fun _ _ h => h) ?_
      refine cw_seq ?_
      refine cw_region ?_
      refine ow_y (y_move rfl) ?_
      refine ow_y (y_nil rfl) ?_
      refine ow_y (y_fld F.fld144_1 rfl) ?_
      refine ow_y (y_load F.sc136 rfl (by rfl)) ?_
      refine ow_y (y_move rfl) ?_
      refine ow_said (sat_hl hgo hok aSp) (ow_gives rfl F.hb81 rfl (hl') aSp ?_)
      simp only [List.cons_append, List.nil_append]
      refine ow_y (y_assign rfl) ?_
      refine ow_nil ?_
      refine kw_code (fun _ _ h => h) ?_
      refine cw_seq ?_
      refine cw_seq ?_
      refine cw_hl aFd fun by2 gv2 gc2 o2 hgo2 hok2 => ?_
      simp only [openTT, hcells, List.cons_append, List.nil_append]
      refine cw_region ?_
      refine ow_y (y_move rfl) ?_
      refine ow_y (y_nil rfl) ?_
      refine ow_y (y_fld F.fld144_1 rfl) ?_
      refine ow_y (y_load F.sc136 rfl (by rfl)) ?_
      refine ow_said (sat_hl hgo2 hok2 aSp) (ow_gives rfl F.hb82 rfl (deep_spec a t) aSp ?_)
      simp only [List.cons_append, List.nil_append]
      refine ow_y (y_eql rfl rfl) ?_
      refine ow_nil ?_
      refine kw_code (fun _ _ h => h) ?_
      refine cw_false rfl (decide_eq_false (by omega)) ?_
      refine cw_skip ?_
      refine kw_code (fun _ _ h => h) ?_
      refine cw_seq ?_
      refine cw_region ?_
      refine ow_y (y_move rfl) ?_
      refine ow_y (y_assign rfl) ?_
      refine ow_nil ?_
      refine kw_code (fun _ _ h => h) ?_
      refine cw_retR rfl (fun _ _ h => h) rfl rfl aSp
end Go.Proofs.YthlclfdnhnnebaaGreatDoor
end
section
set_option maxRecDepth 4000
set_option maxHeartbeats 4000000
namespace Go.Proofs.YthlclfdnhnnebaaGreatDoor
open Go.Sl Go.Sb
theorem room_n {n : Nat} {α S : Type} {o : Out α × S} (h : o.1 ≠ .big) (hb : 1000000000 ≤ n → o.1 = .big) : n < 1000000000 := by
  rcases Nat.lt_or_ge n 1000000000 with h' | h'
  · exact h'
  · exact (h (hb h')).elim
theorem dropRefs_eq {s : St} (k : Int) (h : s.log.length < 1000000000) : dropRefs k s = (.ok (), { s with log := bk s.depth s.log (.refs k (mget k s.refs)), refs := mdel k s.refs }) := by
  simp [dropRefs, andThen, back, show ¬ 1000000000 ≤ s.log.length by omega]
theorem dropYoung_eq {s : St} (k : Int) (h : s.log.length < 1000000000) : dropYoung k s = (.ok (), { s with log := bk s.depth s.log (.young k (mget k s.young)), young := mdel k s.young }) := by
  simp [dropYoung, andThen, back, show ¬ 1000000000 ≤ s.log.length by omega]
theorem setGone_eq {s : St} (l : List Int) (hl : l.length < 1000000000) (h : s.log.length < 1000000000) : setGone l s = (.ok (), { s with log := bk s.depth s.log (.gone s.gone), gone := l }) := by
  simp [setGone, andThen, back, show ¬ 1000000000 ≤ s.log.length by omega, show ¬ 1000000000 ≤ l.length by omega]
theorem back_eq {s : St} (st : Step) (h : s.log.length < 1000000000) : back st s = (.ok (), { s with log := bk s.depth s.log st }) := by
  simp [back, show ¬ 1000000000 ≤ s.log.length by omega]
theorem back_big {s : St} {st : Step} (h : (back st s).1 ≠ .big) : s.log.length < 1000000000 := by
  rcases Nat.lt_or_ge s.log.length 1000000000 with h' | h'
  · exact h'
  · exact (h (by simp [back, h'])).elim
theorem hless_inR {s : St} {k : Int} (h : (hless k s).1 ≠ .big) : inR k = true := by
  cases hi : inR k with
  | true => rfl
  | false => exact (h (by simp [hless, hi])).elim
theorem hless_one {s : St} {k : Int} (hnb : (hless k s).1 ≠ .big) (h1 : refsOf s k = 1) :
    inR k = true ∧ s.log.length < 1000000000 ∧ (bk s.depth s.log (.refs k (mget k s.refs))).length < 1000000000 ∧
    (let l2 := bk s.depth (bk s.depth s.log (.refs k (mget k s.refs))) (.back k)
     if 0 < youngOf s k then s.gone.length + 1 < 1000000000 ∧ l2.length < 1000000000 ∧ (bk s.depth l2 (.young k (mget k s.young))).length < 1000000000 ∧
        hless k s = (.ok true, { s with refs := mdel k s.refs, g := mvL s.fr s.g k 1 2, young := mdel k s.young, gone := s.gone ++ [k], log := bk s.depth (bk s.depth l2 (.young k (mget k s.young))) (.gone s.gone) })
      else hless k s = (.ok true, { s with refs := mdel k s.refs, g := mvL s.fr s.g k 1 2, log := l2 })) := by
  have hi := hless_inR hnb
  have e1 : hless k s = andThen (dropRefs k) (fun _ => andThen (fun s => back (.back k) { s with g := mvL s.fr s.g k 1 2 }) fun _ =>
      andThen (fun s => if 0 < youngOf s k then andThen (dropYoung k) (fun _ s => setGone (s.gone ++ [k]) s) s else ret () s) fun _ => ret true) s := by
    simp [hless, hi, h1]
  rw [e1] at hnb
  have a1 : s.log.length < 1000000000 := room_of (big1 hnb) fun h => by simp [dropRefs, andThen, back, h]
  have b1 := big2 hnb (dropRefs_eq k a1)
  have a2 := back_big (big1 b1)
  have b2 := big2 b1 (back_eq _ a2)
  refine ⟨hi, a1, a2, ?_⟩
  simp only
  rw [e1, andThen_ok (dropRefs_eq k a1), andThen_ok (m := fun s => back (.back k) { s with g := mvL s.fr s.g k 1 2 }) (back_eq (s := { s with refs := mdel k s.refs, g := mvL s.fr s.g k 1 2, log := bk s.depth s.log (.refs k (mget k s.refs)) }) (.back k) a2)]
  have b3 := big1 b2
  split
  · rename_i hy
    have hy' : 0 < youngOf { s with refs := mdel k s.refs, g := mvL s.fr s.g k 1 2, log := bk s.depth (bk s.depth s.log (.refs k (mget k s.refs))) (.back k) } k := hy
    rw [if_pos hy'] at b3
    have a3 := room_n (n := (bk s.depth (bk s.depth s.log (.refs k (mget k s.refs))) (.back k)).length) (big1 b3) fun h => by simp [dropYoung, andThen, back, h]
    have b4 := big2 b3 (dropYoung_eq k a3)
    have a4 := room_n (n := (bk s.depth (bk s.depth (bk s.depth s.log (.refs k (mget k s.refs))) (.back k)) (.young k (mget k s.young))).length) b4 fun h => by simp only [setGone]; split <;> simp [andThen, back, h]
    have a5 := room_n (n := (s.gone ++ [k]).length) b4 fun h => by rw [setGone, if_pos h]
    refine ⟨by simpa using a5, a3, a4, ?_⟩
    have e : (fun s => if 0 < youngOf s k then andThen (dropYoung k) (fun _ s => setGone (s.gone ++ [k]) s) s else ret () s) { s with refs := mdel k s.refs, g := mvL s.fr s.g k 1 2, log := bk s.depth (bk s.depth s.log (.refs k (mget k s.refs))) (.back k) } =
        (.ok (), { s with refs := mdel k s.refs, g := mvL s.fr s.g k 1 2, young := mdel k s.young, gone := s.gone ++ [k], log := bk s.depth (bk s.depth (bk s.depth (bk s.depth s.log (.refs k (mget k s.refs))) (.back k)) (.young k (mget k s.young))) (.gone s.gone) }) := by
      simp only [if_pos hy']
      rw [andThen_ok (dropYoung_eq k a3), setGone_eq _ a5 a4]
    rw [andThen_ok e]; rfl
  · rename_i hy
    have hy' : ¬ 0 < youngOf { s with refs := mdel k s.refs, g := mvL s.fr s.g k 1 2, log := bk s.depth (bk s.depth s.log (.refs k (mget k s.refs))) (.back k) } k := hy
    have e : (fun s => if 0 < youngOf s k then andThen (dropYoung k) (fun _ s => setGone (s.gone ++ [k]) s) s else ret () s) { s with refs := mdel k s.refs, g := mvL s.fr s.g k 1 2, log := bk s.depth (bk s.depth s.log (.refs k (mget k s.refs))) (.back k) } =
        (.ok (), { s with refs := mdel k s.refs, g := mvL s.fr s.g k 1 2, log := bk s.depth (bk s.depth s.log (.refs k (mget k s.refs))) (.back k) }) := by
      simp only [if_neg hy']; rfl
    rw [andThen_ok e]; rfl
end Go.Proofs.YthlclfdnhnnebaaGreatDoor
end
section
set_option maxRecDepth 4000
set_option maxHeartbeats 4000000
namespace Go.Proofs.YthlclfdnhnnebaaGreatDoor
open Go.Sl Go.Sb
theorem gone_more {gv : Value} {l : List Int} {gc : List (Nat × Obj)} {b cap : Nat} {cur : List Value} {k : Int} (hg : goneIs gv l gc) (hk : inR k = true) (h1 : l.length + 1 ≤ cap) (h2 : cap ≤ maxLen) (h3 : cur.length = cap * 1) (h4 : cur.take ((l.length + 1) * 1) = l.map intV ++ [.int .i64 k]) :
    goneIs (.slice (some ⟨b, 0, none⟩) (l.length + 1) cap) (l ++ [k]) [(b, .cells cur.toArray 3 (0, 0))] := by
  refine ⟨fun x hx => ?_, .inr ⟨b, cap, cur, by simp, by simpa using h1, h2, by simpa using h3, by simpa [intV] using h4, rfl⟩⟩
  rcases List.mem_append.1 hx with hx | hx
  · exact hg.1 x hx
  · simp at hx; subst hx; exact hk
theorem hless_fail (W : World) (a : Ad) (s : St) (at_ : Int) (h0 : refsOf s at_ = 0) : Does Tryz.prog 193 #[ptr a.heap, .int .i64 at_] (RS W a s) (Ran fT (RS W a) (fun b => .bool b) ((.err 6, s) : Out Bool × St)) := by
  have h0' : (mget at_ s.refs).getD 0 = 0 := h0
  refine does_enter Tryz.func193 rfl Tryz.ntmps193 rfl (fun R w0 => ?_)
  simp only [envOf, List.cons_append, List.nil_append]
  refine cw_hl aFd fun by_ gv gc o hg hok => ?_
  simp only [openTT, hcells, List.cons_append, List.nil_append]
  refine cw_seq ?_
  refine cw_region ?_
  refine (ow_box rfl (fun b2 => ?_))
  refine (ow_box rfl (fun b3 => ?_))
  refine ow_y (y_assign rfl) ?_
  refine ow_nil ?_
  refine kw_code (fun _ _ h => h) ?_
  refine cw_seq ?_
  refine cw_soft F.fol (by kernel_rfl) ?_
  refine os_y (y_load F.sc62 rfl (by rfl)) ?_
  refine os_y (y_nil rfl) ?_
  refine os_y (y_fld F.fld144_3 rfl) ?_
  refine os_y (y_load F.sc142 rfl (by rfl)) ?_
  refine os_y (y_load F.sc3 rfl (by rfl)) ?_
  refine os_y (y_look1 (ek := intV) (ev := intV) F.mp142 keyI (tt fun _ => trivial) trivial F.z3 rfl rfl aFd getInt) ?_
  refine os_y (y_assign rfl) ?_
  refine os_nil ?_
  refine kw_code (fun _ _ h => h) ?_
  refine cw_seq ?_
  refine cw_seq ?_
  refine cw_region ?_
  refine ow_y (y_move rfl) ?_
  refine ow_nil ?_
  refine kw_code (fun _ _ h => h) ?_
  refine cw_block ?_
  refine cw_seq ?_
  refine cw_region ?_
  refine ow_y (y_eql rfl rfl) ?_
  refine ow_y (y_assign rfl) ?_
  refine ow_nil ?_
  refine kw_code (fun _ _ h => h) ?_
  refine cw_true rfl (by simp [h0']) ?_
  refine cw_region ?_
  refine ow_fails rfl F.hb29 rfl (fail_spec 6) aSp ?_
  simp only [List.cons_append, List.nil_append]
  repeat (first | with_reducible refine kw_inBlock_panic ?_ | with_reducible refine kw_then_panic ?_)
  refine kw_said (sat_hl hg hok aSp) (kw_panic (fun _ _ h => h) (Split.back aSp) ⟨rfl, rfl⟩)
theorem hless_two (W : World) (a : Ad) (s : St) (at_ : Int) (h0 : ¬ refsOf s at_ = 0) (h1 : ¬ refsOf s at_ = 1) (hn : s.log.length < 1000000000) :
    Does Tryz.prog 193 #[ptr a.heap, .int .i64 at_] (RS W a s) (Ran fT (RS W a) (fun b => .bool b) ((.ok false, { s with log := bk s.depth s.log (.refs at_ (mget at_ s.refs)), refs := mput at_ (wrap64 (refsOf s at_ - 1)) s.refs }) : Out Bool × St)) := by
  have h0' : ¬ (mget at_ s.refs).getD 0 = 0 := h0
  have h1' : ¬ (mget at_ s.refs).getD 0 = 1 := h1
  refine does_enter Tryz.func193 rfl Tryz.ntmps193 rfl (fun R w0 => ?_)
  simp only [envOf, List.cons_append, List.nil_append]
  refine cw_hl aFd fun by_ gv gc o hg hok => ?_
  simp only [openTT, hcells, List.cons_append, List.nil_append]
  refine cw_seq ?_
  refine cw_region ?_
  refine (ow_box rfl (fun b2 => ?_))
  refine (ow_box rfl (fun b3 => ?_))
  refine ow_y (y_assign rfl) ?_
  refine ow_nil ?_
  refine kw_code (fun _ _ h => h) ?_
  refine cw_seq ?_
  refine cw_soft F.fol (by kernel_rfl) ?_
  refine os_y (y_load F.sc62 rfl (by rfl)) ?_
  refine os_y (y_nil rfl) ?_
  refine os_y (y_fld F.fld144_3 rfl) ?_
  refine os_y (y_load F.sc142 rfl (by rfl)) ?_
  refine os_y (y_load F.sc3 rfl (by rfl)) ?_
  refine os_y (y_look1 (ek := intV) (ev := intV) F.mp142 keyI (tt fun _ => trivial) trivial F.z3 rfl rfl aFd getInt) ?_
  refine os_y (y_assign rfl) ?_
  refine os_nil ?_
  refine kw_code (fun _ _ h => h) ?_
  refine cw_seq ?_
  refine cw_seq ?_
  refine cw_region ?_
  refine ow_y (y_move rfl) ?_
  refine ow_nil ?_
  refine kw_code (fun _ _ h => h) ?_
  refine cw_block ?_
  refine cw_seq ?_
  refine cw_region ?_
  refine ow_y (y_eql rfl rfl) ?_
  refine ow_y (y_assign rfl) ?_
  refine ow_nil ?_
  refine kw_code (fun _ _ h => h) ?_
  refine cw_false rfl (by simp [h0']) ?_
  refine cw_seq ?_
  refine cw_region ?_
  refine ow_y (y_eql rfl rfl) ?_
  refine ow_y (y_assign rfl) ?_
  refine ow_nil ?_
  refine kw_code (fun _ _ h => h) ?_
  refine cw_false rfl (by simp [h1']) ?_
  refine cw_skip ?_
  refine kw_code (fun _ _ h => h) ?_
  refine cw_seq ?_
  refine cw_tail 11 F.fol (by kernel_rfl) ?_
  simp only [List.take_succ_cons, List.take_zero, List.drop_succ_cons, List.drop_zero]
  refine os_y (y_load F.sc62 rfl (by rfl)) ?_
  refine os_y (y_nil rfl) ?_
  refine os_y (y_fld F.fld144_1 rfl) ?_
  refine os_y (y_load F.sc136 rfl (by rfl)) ?_
  refine os_y (y_load F.sc62 rfl (by rfl)) ?_
  refine os_y (y_nil rfl) ?_
  refine os_y (y_fld F.fld144_3 rfl) ?_
  refine os_y (y_load F.sc142 rfl (by rfl)) ?_
  refine os_y (y_load F.sc3 rfl (by rfl)) ?_
  refine os_y (y_move rfl) ?_
  refine os_y (y_sub rfl rfl) ?_
  refine os_nil ?_
  rw [wrap_i64']
  refine ow_givesE rfl F.hb206 rfl (putInt_spec a by_ o s.log s.depth a.refs s.refs at_ (wrap64 (refsOf s at_ - 1)) (.refs at_ (mget at_ s.refs)) hn (fun _ _ _ _ => ⟨_, _, _, _, .inl rfl, rfl⟩)) aSp ?_
  rintro e _
  try simp only [List.cons_append, List.nil_append]
  refine ow_nil ?_
  refine kw_code (fun _ _ h => h) ?_
  refine cw_seq ?_
  refine cw_region ?_
  refine ow_y (y_assign rfl) ?_
  refine ow_nil ?_
  refine kw_code (fun _ _ h => h) ?_
  refine cw_said (sat_hl (s := { s with log := bk s.depth s.log (.refs at_ (mget at_ s.refs)), refs := mput at_ (wrap64 (refsOf s at_ - 1)) s.refs }) hg hok aSp) (cw_retR rfl (fun _ _ h => h) rfl rfl aSp)
end Go.Proofs.YthlclfdnhnnebaaGreatDoor
end
