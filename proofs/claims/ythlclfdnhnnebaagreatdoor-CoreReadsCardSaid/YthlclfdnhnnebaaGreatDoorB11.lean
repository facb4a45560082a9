/- Part of the proof; no statement of its own: U1, U2, U3, U4, U5. -/
import Derived.Test.YthlclfdnhnnebaaGreatDoorB08
import Derived.Test.YthlclfdnhnnebaaGreatDoorB09
import Derived.Test.YthlclfdnhnnebaaGreatDoorB10
import Derived.Test.YthlclfdnhnnebaaGreatDoorB06
import Derived.Test.YthlclfdnhnnebaaGreatDoorB07
set_option linter.all false
section
set_option maxRecDepth 4000
set_option maxHeartbeats 4000000
namespace Go.Proofs.YthlclfdnhnnebaaGreatDoor
open Go.Sl Go.Sb
structure Ad where
  disk : Nat
  vd : Value
  log : Nat
  gr : Nat
  grl : Nat
  refs : Nat
  heap : Nat
  st : Nat
  ix : Nat
  maps : Nat
  core : Nat
  vols : Nat
abbrev ptr (b : Nat) : Value := .pointer (some ⟨b, 0, none⟩)
abbrev cellB (b : Nat) (t : TypeId) (v : Value) : Nat × Obj := (b, .cells #[v] t (0, 0))
def entV (x : Ent) : List Value := [.int .u32 x.id, .int .u32 x.parent, .bool x.only, .int .i64 x.size, .int .i64 x.root, .int .u32 x.born]
def sumV (s : B) : Value := .agg (s.map byteV).toArray
def entA (x : Ent) : Value := .agg (entV x).toArray
abbrev clo (f : FuncId) (bs : List Nat) : Value := .func (.func f) #[] (bs.map ptr).toArray
def intV (x : Int) : Value := .int .i64 x
def u32V (x : Int) : Value := .int .u32 x
def goneIs (x : Value) (w : List Int) (c : List (Nat × Obj)) : Prop := (∀ k ∈ w, inR k = true) ∧ (w = [] ∧ x = .slice none 0 0 ∧ c = [] ∨
  ∃ (g cap : Nat) (cur : List Value), x = .slice (some ⟨g, 0, none⟩) w.length cap ∧ w.length ≤ cap ∧ cap ≤ maxLen ∧ cur.length = cap ∧ cur.take w.length = w.map intV ∧ c = [(g, .cells cur.toArray 3 (0, 0))])
def stepIs (a : Ad) (by_ : Nat) : Step → Value → List (Nat × Obj) → Prop
  | .give k, v, c => inR k = true ∧ ∃ b1 b2, v = clo 261 [b1, b2] ∧ c = [cellB b1 62 (ptr a.heap), cellB b2 3 (.int .i64 k)]
  | .back k, v, c => inR k = true ∧ ∃ b1 b2, v = clo 245 [b1, b2] ∧ c = [cellB b1 62 (ptr a.heap), cellB b2 3 (.int .i64 k)]
  | .keep w, v, c => ∃ b1 b2, v = clo 169 [b1, b2] ∧ c = [cellB b1 3 (.int .i64 w), cellB b2 202 (.pointer (some ⟨a.heap, 6, none⟩))]
  | .next w, v, c => ∃ b1 b2, v = clo 168 [b1, b2] ∧ c = [cellB b1 26 (.int .u32 w), cellB b2 200 (.pointer (some ⟨a.core, 3, none⟩))]
  | .gone w, v, c => ∃ b1 b2 x b3, v = clo 274 [b1, b2] ∧ c = cellB b1 109 x :: cellB b2 310 (.pointer (some ⟨a.heap, 5, none⟩)) :: b3 ∧ goneIs x w b3
  | .refs k w, v, c => ∃ b1 b2 b3 b4, (v = clo 259 [b1, b2, b3, b4] ∨ v = clo 273 [b1, b2, b3, b4]) ∧
      c = [cellB b1 142 (.map (some a.refs)), cellB b2 3 (.int .i64 k), cellB b3 3 (.int .i64 (w.getD 0)), cellB b4 4 (.bool w.isSome)]
  | .young k w, v, c => ∃ b1 b2 b3 b4, (v = clo 259 [b1, b2, b3, b4] ∨ v = clo 273 [b1, b2, b3, b4]) ∧
      c = [cellB b1 142 (.map (some by_)), cellB b2 3 (.int .i64 k), cellB b3 3 (.int .i64 (w.getD 0)), cellB b4 4 (.bool w.isSome)]
  | .index k w, v, c => k.length = 32 ∧ ∃ b1 b2 b3 b4, (v = clo 211 [b1, b2, b3, b4] ∨ v = clo 249 [b1, b2, b3, b4]) ∧
      c = [cellB b1 193 (.map (some a.ix)), (b2, .cells (k.map byteV).toArray 175 (0, 0)), cellB b3 3 (.int .i64 (w.getD 0)), cellB b4 4 (.bool w.isSome)]
  | .vols k w, v, c => ∃ b1 b2 b3 b4, (v = clo 128 [b1, b2, b3, b4] ∨ v = clo 158 [b1, b2, b3, b4]) ∧
      c = [cellB b1 67 (.map (some a.vols)), cellB b2 26 (.int .u32 k), (b3, .cells (entV (w.getD ent0)).toArray 72 (0, 0)), cellB b4 4 (.bool w.isSome)]
abbrev Own := List (Step × Value × List (Nat × Obj))
def Own.cells (o : Own) : List Asrt := (o.flatMap fun e => e.2.2).map fun p => pts p.1 p.2
def logOK (a : Ad) (by_ : Nat) (o : Own) (log : List Step) (vals : List Value) : Prop :=
  log.length ≤ 1000000000 ∧ ∃ live rest : Own, o.Perm (live ++ rest) ∧ live.map (·.1) = log ∧ live.map (·.2.1) = vals ∧ ∀ e ∈ live, stepIs a by_ e.1 e.2.1 e.2.2
theorem logOK.len {a : Ad} {by_ : Nat} {o : Own} {log : List Step} {vals : List Value} (h : logOK a by_ o log vals) : log.length = vals.length := by
  obtain ⟨_, live, rest, _, rfl, rfl, _⟩ := h
  simp
def logV (a : Ad) (by_ : Nat) (o : Own) (log : List Step) (depth : Nat) (v : Value) (vals : List Value) : List Asrt :=
  [pts a.log (.cells #[v, .int .i64 depth] 139 (0, 0)), rowA 1 1 v vals.length vals, star (Own.cells o), fact (logOK a by_ o log vals ∧ depth ≤ 1000000000)]
def logO (a : Ad) (by_ : Nat) (o : Own) (log : List Step) (depth : Nat) : Asrt := ex fun x : Value × List Value => star (logV a by_ o log depth x.1 x.2)
end Go.Proofs.YthlclfdnhnnebaaGreatDoor
end
section
set_option maxRecDepth 4000
set_option maxHeartbeats 4000000
namespace Go.Proofs.YthlclfdnhnnebaaGreatDoor
open Go.Sl Go.Sb
section
variable {c : Cx} {ops : Array Oper} {Q : Exit → Act → World → Prop} {rest : List Oper} {env : List (Nat × Value)} {L M : List Asrt} {y : Code} {a : Ad} {by_ : Nat} {o : Own} {log : List Step} {depth : Nat}
theorem cw_log (hL : Fnd L (logO a by_ o log depth) M) (h : ∀ v vals, logOK a by_ o log vals → depth ≤ 1000000000 → v.oneCell' = true → CW c y Q env (pts a.log (.cells #[v, .int .i64 depth] 139 (0, 0)) :: rowA 1 1 v vals.length vals :: star (Own.cells o) :: M)) : CW c y Q env L := by
  refine cw_exs hL fun x => ?_
  simp only [logV, List.cons_append, List.nil_append]
  intro ac w hh
  have h1 := hh.sat
  have h2 : Sat w (fact (logOK a by_ o log x.2 ∧ depth ≤ 1000000000) :: pts a.log (.cells #[x.1, .int .i64 depth] 139 (0, 0)) :: rowA 1 1 x.1 x.2.length x.2 :: star (Own.cells o) :: M) :=
    h1.perm (Fnd.there (Fnd.there (Fnd.there Fnd.here)))
  obtain ⟨⟨h3, h4⟩, h5⟩ := sat_fact.1 h2
  exact h x.1 x.2 h3 h4 (row_one (h5.perm (Fnd.there Fnd.here))) ac w ⟨hh.size, hh.slots, hh.defers, h5, hh.like⟩
theorem sat_log {v : Value} {vals : List Value} (hok : logOK a by_ o log vals) (hd : depth ≤ 1000000000)
    (hL : Split L [pts a.log (.cells #[v, .int .i64 depth] 139 (0, 0)), rowA 1 1 v vals.length vals, star (Own.cells o)] M) (w : World) (h : Sat w L) : Sat w (logO a by_ o log depth :: M) := by
  refine sat_ex.2 ⟨(v, vals), sat_star.2 ?_⟩
  have h1 := sat_mkfact (p := logOK a by_ o log vals ∧ depth ≤ 1000000000) ⟨hok, hd⟩ w (h.perm hL)
  exact h1.perm (List.perm_middle (l₁ := [pts a.log (.cells #[v, .int .i64 depth] 139 (0, 0)), rowA 1 1 v vals.length vals, star (Own.cells o)])).symm
theorem sat_own {st : Step} {v : Value} {cells : List (Nat × Obj)} {w : World} (h : Sat w (star (Own.cells o) :: star (cells.map fun p => pts p.1 p.2) :: M)) : Sat w (star (Own.cells ((st, v, cells) :: o)) :: M) := by
  have h1 : Sat w (star (cells.map fun p => pts p.1 p.2) :: star (Own.cells o) :: M) := h.perm (List.Perm.swap _ _ _)
  have h2 := sat_star.1 h1
  have h3 : Sat w (star (Own.cells o) :: ((cells.map fun p => pts p.1 p.2) ++ M)) := h2.perm List.perm_middle
  have h4 := sat_star.1 h3
  refine sat_star.2 ?_
  have e : Own.cells ((st, v, cells) :: o) = (cells.map fun p => pts p.1 p.2) ++ Own.cells o := by simp [Own.cells]
  rw [e, List.append_assoc]
  exact h4.perm ((List.append_assoc _ _ _).symm ▸ (List.perm_append_comm.append_right M).trans (by rw [List.append_assoc]))
theorem own_cell {w : World} {e : Step × Value × List (Nat × Obj)} {b : Nat} {ob : Obj} (he : e ∈ o) (hb : (b, ob) ∈ e.2.2) (h : Sat w (logO a by_ o log depth :: M)) : w.heap[b]? = some ob := by
  obtain ⟨x, h1⟩ := sat_ex.1 h
  have h2 := sat_star.1 h1
  simp only [logV, List.cons_append, List.nil_append] at h2
  have h3 : Sat w (star (Own.cells o) :: pts a.log (.cells #[x.1, .int .i64 depth] 139 (0, 0)) :: rowA 1 1 x.1 x.2.length x.2 :: fact (logOK a by_ o log x.2 ∧ depth ≤ 1000000000) :: M) :=
    h2.perm (Fnd.there (Fnd.there Fnd.here))
  have h4 := sat_star.1 h3
  have hm : pts b ob ∈ Own.cells o := List.mem_map.2 ⟨(b, ob), List.mem_flatMap.2 ⟨e, he, hb⟩, rfl⟩
  obtain ⟨l1, l2, hl⟩ := List.append_of_mem hm
  rw [hl, List.append_assoc, List.cons_append] at h4
  exact (h4.perm List.perm_middle).pts
theorem y_loadOwn {dd : Option Tmp} {ty : TypeId} {pos : String} {af : Array Edge} {g : Option (Nat × Bool)} {x : Operand} {t et : TypeId} {b k : Nat} {cs : List Value} {e : Step × Value × List (Nat × Obj)} {v : Value} (ht : tyScalar c.P t = true) (hx : evo env x = some (.pointer (some ⟨b, k, none⟩)))
    (hL : Fnd L (logO a by_ o log depth) M) (he : e ∈ o) (hb : (b, .cells cs.toArray et (0, 0)) ∈ e.2.2) (hv : nth cs k = some v) : Sl.Yields c ⟨dd, .load t x, ty, pos, af, g⟩ env L v :=
  y_loadP ht hx hL fun w L' hs => by
    have := own_cell he hb hs
    rw [nth_eq] at hv
    simp [World.cell?, this, hv]
theorem y_loadAggOwn {dd : Option Tmp} {ty : TypeId} {pos : String} {af : Array Edge} {g : Option (Nat × Bool)} {x : Operand} {t et : TypeId} {b n : Nat} {cs : Array Value} {e : Step × Value × List (Nat × Obj)} {v : Array Value} (ht : tyAgg c.P t n = true) (hx : evo env x = some (.pointer (some ⟨b, 0, none⟩)))
    (hL : Fnd L (logO a by_ o log depth) M) (he : e ∈ o) (hb : (b, .cells cs et (0, 0)) ∈ e.2.2) (hn : 0 + n ≤ cs.size) (hv : cs.extract 0 (0 + n) = v) : Sl.Yields c ⟨dd, .load t x, ty, pos, af, g⟩ env L (.agg v) := by
  intro ac w hh
  have h1 := own_cell he hb (hL.sat hh.sat)
  subst hv
  simp [execOp, hh.eval hx, Instr.loadAt, Instr.sureAddr, loadVar, run_isAgg_agg ht, run_sizeOf_agg ht, run_loadCells_blk h1 hn]
end
theorem logOK_back {a : Ad} {by_ : Nat} {o : Own} {log : List Step} {vals : List Value} {st : Step} {v : Value} {cells : List (Nat × Obj)} (h : logOK a by_ o log vals) (hs : stepIs a by_ st v cells) (hn : log.length < 1000000000) :
    logOK a by_ ((st, v, cells) :: o) (log ++ [st]) (vals ++ [v]) := by
  obtain ⟨h1, live, rest, hp, rfl, rfl, hl⟩ := h
  refine ⟨by simp at hn ⊢; omega, live ++ [(st, v, cells)], rest, ?_, by simp, by simp, ?_⟩
  · rw [List.append_assoc]; exact (List.Perm.cons _ hp).trans List.perm_middle.symm
  · intro e he
    rcases List.mem_append.1 he with he | he
    · exact hl e he
    · simp at he; subst he; exact hs
theorem logOK_more {a : Ad} {by_ : Nat} {o : Own} {log : List Step} {vals : List Value} {e : Step × Value × List (Nat × Obj)} (h : logOK a by_ o log vals) : logOK a by_ (e :: o) log vals :=
  by
    obtain ⟨h1, live, rest, hp, h2, h3, hl⟩ := h
    exact ⟨h1, live, e :: rest, (List.Perm.cons _ hp).trans List.perm_middle.symm, h2, h3, hl⟩
theorem back_end {a : Ad} {by_ : Nat} {o : Own} {log : List Step} {depth : Nat} {M : List Asrt} {w : World} {v fv : Value} {vals : List Value} {st : Step} {cells : List (Nat × Obj)} {F : List Asrt} (hok : logOK a by_ ((st, fv, cells) :: o) log vals) (hd : depth ≤ 1000000000)
    (hL : Split M [star (Own.cells o), star (cells.map fun p => pts p.1 p.2), pts a.log (.cells #[v, .int .i64 depth] 139 (0, 0)), rowA 1 1 v vals.length vals] F) (h : Sat w M) : Sat w (logO a by_ ((st, fv, cells) :: o) log depth :: F) :=
  sat_log hok hd (Split.cons (Fnd.there Fnd.here) (Split.cons (Fnd.there Fnd.here) (Split.cons Fnd.here Split.nil))) w (sat_own (h.perm hL))
theorem back_spec (a : Ad) (by_ : Nat) (o : Own) (log : List Step) (depth : Nat) (st : Step) (f : FuncId) (bb : List Nat) (cells : List (Nat × Obj)) (hs : stepIs a by_ st (clo f bb) cells) (hn : log.length < 1000000000) :
    Does Tryz.prog 127 #[ptr a.log, clo f bb] [logO a by_ o log depth, star (cells.map fun p => pts p.1 p.2)] (Gives (.tuple #[]) [logO a by_ ((st, clo f bb, cells) :: o) (bk depth log st) depth]) := by
  refine does_enter Tryz.func127 rfl Tryz.ntmps127 rfl (fun R w0 => ?_)
  simp only [envOf, List.cons_append, List.nil_append]
  refine cw_log aFd fun v0 vals hok hdp hv1 => ?_
  have hlen := hok.len
  refine cw_seq ?_
  refine cw_region ?_
  refine ow_y (y_move rfl) ?_
  refine ow_y (y_nil rfl) ?_
  refine ow_y (y_fld F.fld139_1 rfl) ?_
  refine ow_y (y_load F.sc3 rfl (by rfl)) ?_
  refine ow_y (y_gtr rfl rfl) ?_
  refine ow_nil ?_
  refine kw_code (fun _ _ h => h) ?_
  refine cw_if rfl (fun hb8 => ?_) (fun hb8 => ?_)
  · skip
    have hpos : 0 < depth := by have := of_decide_eq_true hb8; omega
    refine cw_region ?_
    refine ow_y (y_move rfl) ?_
    refine ow_y (y_move rfl) ?_
    refine ow_y (y_nil rfl) ?_
    refine ow_y (y_fld F.fld139_0 rfl) ?_
    refine ow_y (y_load F.sc137 rfl (by rfl)) ?_
    refine ow_y (y_move rfl) ?_
    refine (ow_buildSlice F.sl137 F.z1 rfl rfl rfl (by simp [fillL, madeL, Value.cells] <;> rfl) (fun b15 => ?_))
    refine (ow_append F.sl137 F.tb1 F.z1 rfl rfl rfl aFd (src_blk F.sl137 (by simp; rfl) (by simp) (by simp [Value.oneCell'])) (by simp only [maxLen]; omega) (by omega) (fun v16 hv16 => ?_))
    refine ow_y (y_nil rfl) ?_
    refine ow_y (y_fld F.fld139_0 rfl) ?_
    refine (ow_store F.sz137 rfl rfl (by first | rfl | assumption) (by rfl) (by (try simp only [List.set_cons_zero, List.set_cons_succ, Nat.reduceAdd, Nat.reduceMul, Int.reduceToNat, Nat.zero_add, Nat.add_zero]); rfl) ?_)
    refine ow_nil ?_
    have e : bk depth log st = log ++ [st] := if_pos hpos
    rw [e]
    exact kw_said (fun w h => back_end (vals := vals ++ [clo f bb]) (logOK_back hok hs hn) hdp (by rw [List.length_append]; exact aSp) h) (kw_finG rfl rfl aSp)
  · skip
    have hpos : ¬ 0 < depth := by have := of_decide_eq_false hb8; omega
    refine cw_skip ?_
    have e : bk depth log st = log := if_neg hpos
    rw [e]
    exact kw_said (fun w h => back_end (vals := vals) (logOK_more hok) hdp aSp h) (kw_finG rfl rfl aSp)
end Go.Proofs.YthlclfdnhnnebaaGreatDoor
end
section
set_option maxRecDepth 4000
set_option maxHeartbeats 4000000
namespace Go.Proofs.YthlclfdnhnnebaaGreatDoor
open Go.Sl Go.Sb
theorem does_unstar {P : Program} {f : FuncId} {args : Array Value} {A : Asrt} {N : List Asrt} {Post : Ending → List Asrt → Prop} (h : Does P f args [A, star N] Post) : Does P f args (A :: N) Post := by
  intro w F hs
  refine h w F ?_
  have h1 : Sat w (N ++ (F :: [A])) := hs.perm (by
    show List.Perm (A :: (N ++ [F])) _
    exact ((List.perm_append_singleton A (N ++ [F])).symm).trans (by simp))
  have h2 := sat_star.2 h1
  exact h2.perm (by show List.Perm [star N, F, A] [A, star N, F]; exact (List.perm_append_comm (l₁ := [star N, F]) (l₂ := [A])))
theorem back2 (a : Ad) (by_ : Nat) (o : Own) (log : List Step) (depth : Nat) (st : Step) (f : FuncId) {b1 b2 : Nat} {o1 o2 : Obj} {x y : Nat} (hs : stepIs a by_ st (clo f [b1, b2]) [(x, o1), (y, o2)]) (hn : log.length < 1000000000) :
    Does Tryz.prog 127 #[ptr a.log, .func (.func f) #[] #[ptr b1, ptr b2]] [logO a by_ o log depth, pts x o1, pts y o2] (Gives (.tuple #[]) [logO a by_ ((st, clo f [b1, b2], [(x, o1), (y, o2)]) :: o) (bk depth log st) depth]) :=
  does_unstar (back_spec a by_ o log depth st f [b1, b2] [(x, o1), (y, o2)] hs hn)
theorem back4 (a : Ad) (by_ : Nat) (o : Own) (log : List Step) (depth : Nat) (st : Step) (f : FuncId) {b1 b2 b3 b4 : Nat} {o1 o2 o3 o4 : Obj} {x y z u : Nat} (hs : stepIs a by_ st (clo f [b1, b2, b3, b4]) [(x, o1), (y, o2), (z, o3), (u, o4)]) (hn : log.length < 1000000000) :
    Does Tryz.prog 127 #[ptr a.log, .func (.func f) #[] #[ptr b1, ptr b2, ptr b3, ptr b4]] [logO a by_ o log depth, pts x o1, pts y o2, pts z o3, pts u o4] (Gives (.tuple #[]) [logO a by_ ((st, clo f [b1, b2, b3, b4], [(x, o1), (y, o2), (z, o3), (u, o4)]) :: o) (bk depth log st) depth]) :=
  does_unstar (back_spec a by_ o log depth st f [b1, b2, b3, b4] [(x, o1), (y, o2), (z, o3), (u, o4)] hs hn)
def hcells (a : Ad) (by_ : Nat) (gv : Value) (keep : Int) : List Value := [ptr a.disk, ptr a.log, ptr a.gr, .map (some a.refs), .map (some by_), gv, .int .i64 keep]
abbrev heapC (a : Ad) (by_ : Nat) (gv : Value) (keep : Int) : Asrt := pts a.heap (.cells (hcells a by_ gv keep).toArray 144 (0, 0))
def ccells (a : Ad) (next epoch : Int) : List Value := [ptr a.heap, ptr a.maps, .map (some a.vols), .int .u32 next, .int .u32 epoch]
abbrev coreC (a : Ad) (next epoch : Int) : Asrt := pts a.core (.cells (ccells a next epoch).toArray 69 (0, 0))
abbrev SetE (a : Ad) (by_ : Nat) (o : Own) (log : List Step) (depth : Nat) (st : Step) (A : List Asrt) : Ending → List Asrt → Prop :=
  GivesE (fun _ : Step × Value × List (Nat × Obj) => True) (fun _ => .tuple #[]) (fun e => logO a by_ (e :: o) (bk depth log st) depth :: A)
theorem setInt_spec (a : Ad) (by_ : Nat) (o : Own) (log : List Step) (depth : Nat) (gv : Value) (was to_ : Int) (hn : log.length < 1000000000) :
    Does Tryz.prog 123 #[ptr a.log, .pointer (some ⟨a.heap, 6, none⟩), .int .i64 to_] [logO a by_ o log depth, heapC a by_ gv was] (SetE a by_ o log depth (.keep was) [heapC a by_ gv to_]) := by
  refine does_enter Tryz.func123 rfl Tryz.ntmps123 rfl (fun R w0 => ?_)
  simp only [envOf, List.cons_append, List.nil_append, hcells]
  refine cw_seq ?_
  refine cw_region ?_
  refine (ow_box rfl (fun b4 => ?_))
  refine ow_nil ?_
  refine kw_code (fun _ _ h => h) ?_
  refine cw_seq ?_
  refine cw_region ?_
  refine ow_y (y_load F.sc202 rfl (by rfl)) ?_
  refine ow_y (y_nil rfl) ?_
  refine ow_y (y_load F.sc3 rfl (by rfl)) ?_
  refine (ow_alloc F.z3 (fun b6 => ?_))
  refine (ow_store F.sz3 rfl rfl (by first | rfl | assumption) (by rfl) (by (try simp only [List.set_cons_zero, List.set_cons_succ, Nat.reduceAdd, Nat.reduceMul, Int.reduceToNat, Nat.zero_add, Nat.add_zero]); rfl) ?_)
  refine ow_nil ?_
  refine kw_code (fun _ _ h => h) ?_
  refine cw_seq ?_
  refine cw_region ?_
  refine ow_y (y_move rfl) ?_
  refine ow_y (y_func rfl rfl rfl) ?_
  refine ow_gives rfl F.hb127 rfl (back2 a by_ o log depth (.keep was) _ ⟨_, _, rfl, rfl⟩ hn) aSp ?_
  try simp only [List.cons_append, List.nil_append]
  refine ow_nil ?_
  refine kw_code (fun _ _ h => h) ?_
  refine cw_region ?_
  refine ow_y (y_loadOwn F.sc202 rfl aFd List.mem_cons_self (List.mem_cons_of_mem _ List.mem_cons_self) rfl) ?_
  refine ow_y (y_move rfl) ?_
  refine ow_y (y_nil rfl) ?_
  refine (ow_store F.sz3 rfl rfl (by first | rfl | assumption) (by rfl) (by (try simp only [List.set_cons_zero, List.set_cons_succ, Nat.reduceAdd, Nat.reduceMul, Int.reduceToNat, Nat.zero_add, Nat.add_zero]); rfl) ?_)
  refine ow_nil ?_
  refine kw_finE _ trivial rfl rfl aSp
theorem keyI : KeyR Tryz.prog 3 intV (fun _ => True) := keyR_int F.in3
theorem keyU : KeyR Tryz.prog 26 u32V (fun _ => True) := keyR_int F.in26
theorem keyS : KeyR Tryz.prog 175 sumV (fun l => l.length = 32) := keyR_arr F.ka175
theorem tt {α : Type} {m : List α} {p : α → Prop} (h : ∀ x, p x) : ∀ x ∈ m, p x := fun x _ => h x
theorem getInt (w : Option Int) : (w.map intV).getD (.int .i64 0) = .int .i64 (w.getD 0) := by cases w <;> rfl
theorem getEnt (w : Option Ent) : (w.map entA).getD (.agg #[.int .u32 0, .int .u32 0, .bool false, .int .i64 0, .int .i64 0, .int .u32 0]) = .agg (entV (w.getD ent0)).toArray := by cases w <;> rfl
theorem setU32_spec (a : Ad) (by_ : Nat) (o : Own) (log : List Step) (depth : Nat) (was to_ ep : Int) (hn : log.length < 1000000000) :
    Does Tryz.prog 122 #[ptr a.log, .pointer (some ⟨a.core, 3, none⟩), .int .u32 to_] [logO a by_ o log depth, coreC a was ep] (SetE a by_ o log depth (.next was) [coreC a to_ ep]) := by
  refine does_enter Tryz.func122 rfl Tryz.ntmps122 rfl (fun R w0 => ?_)
  simp only [envOf, List.cons_append, List.nil_append, ccells]
  refine cw_seq ?_
  refine cw_region ?_
  refine (ow_box rfl (fun b4 => ?_))
  refine ow_nil ?_
  refine kw_code (fun _ _ h => h) ?_
  refine cw_seq ?_
  refine cw_region ?_
  refine ow_y (y_load F.sc200 rfl (by rfl)) ?_
  refine ow_y (y_nil rfl) ?_
  refine ow_y (y_load F.sc26 rfl (by rfl)) ?_
  refine (ow_alloc F.z26 (fun b6 => ?_))
  refine (ow_store F.sz26 rfl rfl (by first | rfl | assumption) (by rfl) (by (try simp only [List.set_cons_zero, List.set_cons_succ, Nat.reduceAdd, Nat.reduceMul, Int.reduceToNat, Nat.zero_add, Nat.add_zero]); rfl) ?_)
  refine ow_nil ?_
  refine kw_code (fun _ _ h => h) ?_
  refine cw_seq ?_
  refine cw_region ?_
  refine ow_y (y_move rfl) ?_
  refine ow_y (y_func rfl rfl rfl) ?_
  refine ow_gives rfl F.hb127 rfl (back2 a by_ o log depth (.next was) _ ⟨_, _, rfl, rfl⟩ hn) aSp ?_
  try simp only [List.cons_append, List.nil_append]
  refine ow_nil ?_
  refine kw_code (fun _ _ h => h) ?_
  refine cw_region ?_
  refine ow_y (y_loadOwn F.sc200 rfl aFd List.mem_cons_self (List.mem_cons_of_mem _ List.mem_cons_self) rfl) ?_
  refine ow_y (y_move rfl) ?_
  refine ow_y (y_nil rfl) ?_
  refine (ow_store F.sz26 rfl rfl (by first | rfl | assumption) (by rfl) (by (try simp only [List.set_cons_zero, List.set_cons_succ, Nat.reduceAdd, Nat.reduceMul, Int.reduceToNat, Nat.zero_add, Nat.add_zero]); rfl) ?_)
  refine ow_nil ?_
  refine kw_finE _ trivial rfl rfl aSp
theorem putInt_spec (a : Ad) (by_ : Nat) (o : Own) (log : List Step) (depth : Nat) (mb : Nat) (m : List (Int × Int)) (k v : Int) (st : Step) (hn : log.length < 1000000000)
    (hst : ∀ b1 b2 b3 b4, stepIs a by_ st (clo 259 [b1, b2, b3, b4]) [cellB b1 142 (.map (some mb)), cellB b2 3 (.int .i64 k), cellB b3 3 (.int .i64 ((mget k m).getD 0)), cellB b4 4 (.bool (mget k m).isSome)]) :
    Does Tryz.prog 206 #[ptr a.log, .map (some mb), .int .i64 k, .int .i64 v] [logO a by_ o log depth, mapP mb intV intV m] (SetE a by_ o log depth st [mapP mb intV intV (mput k v m)]) := by
  refine does_enter Tryz.func206 rfl Tryz.ntmps206 rfl (fun R w0 => ?_)
  simp only [envOf, List.cons_append, List.nil_append]
  refine cw_seq ?_
  refine cw_region ?_
  refine (ow_box rfl (fun b5 => ?_))
  refine (ow_box rfl (fun b6 => ?_))
  refine ow_nil ?_
  refine kw_code (fun _ _ h => h) ?_
  refine cw_seq ?_
  refine cw_region ?_
  refine ow_y (y_load F.sc142 rfl (by rfl)) ?_
  refine ow_y (y_load F.sc3 rfl (by rfl)) ?_
  refine ow_y (y_look2 (ek := intV) (ev := intV) F.mp142 keyI (tt fun _ => trivial) trivial F.z3 rfl rfl aFd getInt) ?_
  refine ow_y (y_move rfl) ?_
  refine ow_y (y_ext rfl rfl) ?_
  refine ow_y (y_ext rfl rfl) ?_
  refine (ow_alloc F.z3 (fun b8 => ?_))
  refine (ow_alloc F.z4 (fun b9 => ?_))
  refine (ow_store F.sz3 rfl rfl (by first | rfl | assumption) (by rfl) (by (try simp only [List.set_cons_zero, List.set_cons_succ, Nat.reduceAdd, Nat.reduceMul, Int.reduceToNat, Nat.zero_add, Nat.add_zero]); rfl) ?_)
  refine (ow_store F.sz4 rfl rfl (by first | rfl | assumption) (by rfl) (by (try simp only [List.set_cons_zero, List.set_cons_succ, Nat.reduceAdd, Nat.reduceMul, Int.reduceToNat, Nat.zero_add, Nat.add_zero]); rfl) ?_)
  refine ow_nil ?_
  refine kw_code (fun _ _ h => h) ?_
  refine cw_seq ?_
  refine cw_region ?_
  refine ow_y (y_move rfl) ?_
  refine ow_y (y_func rfl rfl rfl) ?_
  refine ow_gives rfl F.hb127 rfl (back4 a by_ o log depth st _ (hst _ _ _ _) hn) aSp ?_
  try simp only [List.cons_append, List.nil_append]
  refine ow_nil ?_
  refine kw_code (fun _ _ h => h) ?_
  refine cw_region ?_
  refine ow_y (y_loadOwn F.sc142 rfl aFd List.mem_cons_self List.mem_cons_self rfl) ?_
  refine ow_y (y_loadOwn F.sc3 rfl aFd List.mem_cons_self (List.mem_cons_of_mem _ List.mem_cons_self) rfl) ?_
  refine ow_y (y_move rfl) ?_
  refine ow_mapPut (ek := intV) (ev := intV) F.mp142 keyI (tt fun _ => trivial) trivial rfl rfl rfl aFd ?_
  refine ow_nil ?_
  refine kw_finE _ trivial rfl rfl aSp
theorem dropInt_spec (a : Ad) (by_ : Nat) (o : Own) (log : List Step) (depth : Nat) (mb : Nat) (m : List (Int × Int)) (k : Int) (st : Step) (hn : log.length < 1000000000)
    (hst : ∀ b1 b2 b3 b4, stepIs a by_ st (clo 273 [b1, b2, b3, b4]) [cellB b1 142 (.map (some mb)), cellB b2 3 (.int .i64 k), cellB b3 3 (.int .i64 ((mget k m).getD 0)), cellB b4 4 (.bool (mget k m).isSome)]) :
    Does Tryz.prog 243 #[ptr a.log, .map (some mb), .int .i64 k] [logO a by_ o log depth, mapP mb intV intV m] (SetE a by_ o log depth st [mapP mb intV intV (mdel k m)]) := by
  refine does_enter Tryz.func243 rfl Tryz.ntmps243 rfl (fun R w0 => ?_)
  simp only [envOf, List.cons_append, List.nil_append]
  refine cw_seq ?_
  refine cw_region ?_
  refine (ow_box rfl (fun b4 => ?_))
  refine (ow_box rfl (fun b5 => ?_))
  refine ow_nil ?_
  refine kw_code (fun _ _ h => h) ?_
  refine cw_seq ?_
  refine cw_region ?_
  refine ow_y (y_load F.sc142 rfl (by rfl)) ?_
  refine ow_y (y_load F.sc3 rfl (by rfl)) ?_
  refine ow_y (y_look2 (ek := intV) (ev := intV) F.mp142 keyI (tt fun _ => trivial) trivial F.z3 rfl rfl aFd getInt) ?_
  refine ow_y (y_move rfl) ?_
  refine ow_y (y_ext rfl rfl) ?_
  refine ow_y (y_ext rfl rfl) ?_
  refine (ow_alloc F.z3 (fun b6 => ?_))
  refine (ow_alloc F.z4 (fun b7 => ?_))
  refine (ow_store F.sz3 rfl rfl (by first | rfl | assumption) (by rfl) (by (try simp only [List.set_cons_zero, List.set_cons_succ, Nat.reduceAdd, Nat.reduceMul, Int.reduceToNat, Nat.zero_add, Nat.add_zero]); rfl) ?_)
  refine (ow_store F.sz4 rfl rfl (by first | rfl | assumption) (by rfl) (by (try simp only [List.set_cons_zero, List.set_cons_succ, Nat.reduceAdd, Nat.reduceMul, Int.reduceToNat, Nat.zero_add, Nat.add_zero]); rfl) ?_)
  refine ow_nil ?_
  refine kw_code (fun _ _ h => h) ?_
  refine cw_seq ?_
  refine cw_region ?_
  refine ow_y (y_move rfl) ?_
  refine ow_y (y_func rfl rfl rfl) ?_
  refine ow_gives rfl F.hb127 rfl (back4 a by_ o log depth st _ (hst _ _ _ _) hn) aSp ?_
  try simp only [List.cons_append, List.nil_append]
  refine ow_nil ?_
  refine kw_code (fun _ _ h => h) ?_
  refine cw_region ?_
  refine ow_y (y_loadOwn F.sc142 rfl aFd List.mem_cons_self List.mem_cons_self rfl) ?_
  refine ow_y (y_loadOwn F.sc3 rfl aFd List.mem_cons_self (List.mem_cons_of_mem _ List.mem_cons_self) rfl) ?_
  refine ow_mapDel (ek := intV) (ev := intV) F.mp142 keyI (tt fun _ => trivial) trivial rfl rfl aFd ?_
  refine ow_nil ?_
  refine kw_finE _ trivial rfl rfl aSp
end Go.Proofs.YthlclfdnhnnebaaGreatDoor
end
section
set_option maxRecDepth 4000
set_option maxHeartbeats 4000000
namespace Go.Proofs.YthlclfdnhnnebaaGreatDoor
open Go.Sl Go.Sb
theorem putSum_spec (a : Ad) (by_ : Nat) (o : Own) (log : List Step) (depth : Nat) (m : List (B × Int)) (k : B) (v : Int) (hn : log.length < 1000000000) (hm : ∀ p ∈ m, p.1.length = 32) (hk : k.length = 32) :
    Does Tryz.prog 178 #[ptr a.log, .map (some a.ix), sumV k, .int .i64 v] [logO a by_ o log depth, mapP a.ix sumV intV m] (SetE a by_ o log depth (.index k (mget k m)) [mapP a.ix sumV intV (mput k v m)]) := by
  have hsz : (k.map byteV).toArray.size = 32 := by simp [hk]
  refine does_enter Tryz.func178 rfl Tryz.ntmps178 rfl (fun R w0 => ?_)
  simp only [envOf, List.cons_append, List.nil_append, sumV]
  refine cw_seq ?_
  refine cw_region ?_
  refine (ow_box rfl (fun b5 => ?_))
  refine (ow_box rfl (fun b6 => ?_))
  refine ow_nil ?_
  refine kw_code (fun _ _ h => h) ?_
  refine cw_seq ?_
  refine cw_region ?_
  refine ow_y (y_load F.sc193 rfl (by rfl)) ?_
  refine ow_y (y_loadAgg F.ag175 rfl (by simp [Value.cells, hk]) (extract_all (by simp [Value.cells, hk]))) ?_
  refine ow_y (y_look2 (ek := sumV) (ev := intV) (k := k) F.mp193 keyS hm hk F.z3 rfl rfl aFd getInt) ?_
  refine ow_y (y_move rfl) ?_
  refine ow_y (y_ext rfl rfl) ?_
  refine ow_y (y_ext rfl rfl) ?_
  refine (ow_alloc F.z3 (fun b8 => ?_))
  refine (ow_alloc F.z4 (fun b9 => ?_))
  refine (ow_store F.sz3 rfl rfl (by first | rfl | assumption) (by rfl) (by (try simp only [List.set_cons_zero, List.set_cons_succ, Nat.reduceAdd, Nat.reduceMul, Int.reduceToNat, Nat.zero_add, Nat.add_zero]); rfl) ?_)
  refine (ow_store F.sz4 rfl rfl (by first | rfl | assumption) (by rfl) (by (try simp only [List.set_cons_zero, List.set_cons_succ, Nat.reduceAdd, Nat.reduceMul, Int.reduceToNat, Nat.zero_add, Nat.add_zero]); rfl) ?_)
  refine ow_nil ?_
  refine kw_code (fun _ _ h => h) ?_
  refine cw_seq ?_
  refine cw_region ?_
  refine ow_y (y_move rfl) ?_
  refine ow_y (y_func rfl rfl rfl) ?_
  refine ow_gives rfl F.hb127 rfl (back4 a by_ o log depth (.index k (mget k m)) _ ⟨hk, _, _, _, _, .inl rfl, rfl⟩ hn) aSp ?_
  try simp only [List.cons_append, List.nil_append]
  refine ow_nil ?_
  refine kw_code (fun _ _ h => h) ?_
  refine cw_region ?_
  refine ow_y (y_loadOwn F.sc193 rfl aFd List.mem_cons_self List.mem_cons_self rfl) ?_
  refine ow_y (y_loadAggOwn F.ag175 rfl aFd List.mem_cons_self (List.mem_cons_of_mem _ List.mem_cons_self) (by simp [hk]) (extract_all (by simp [hk]))) ?_
  refine ow_y (y_move rfl) ?_
  refine ow_mapPut (ek := sumV) (ev := intV) (k := k) F.mp193 keyS hm hk rfl rfl rfl aFd ?_
  refine ow_nil ?_
  refine kw_finE _ trivial rfl rfl aSp
theorem dropSum_spec (a : Ad) (by_ : Nat) (o : Own) (log : List Step) (depth : Nat) (m : List (B × Int)) (k : B) (hn : log.length < 1000000000) (hm : ∀ p ∈ m, p.1.length = 32) (hk : k.length = 32) :
    Does Tryz.prog 198 #[ptr a.log, .map (some a.ix), sumV k] [logO a by_ o log depth, mapP a.ix sumV intV m] (SetE a by_ o log depth (.index k (mget k m)) [mapP a.ix sumV intV (mdel k m)]) := by
  have hsz : (k.map byteV).toArray.size = 32 := by simp [hk]
  refine does_enter Tryz.func198 rfl Tryz.ntmps198 rfl (fun R w0 => ?_)
  simp only [envOf, List.cons_append, List.nil_append, sumV]
  refine cw_seq ?_
  refine cw_region ?_
  refine (ow_box rfl (fun b4 => ?_))
  refine (ow_box rfl (fun b5 => ?_))
  refine ow_nil ?_
  refine kw_code (fun _ _ h => h) ?_
  refine cw_seq ?_
  refine cw_region ?_
  refine ow_y (y_load F.sc193 rfl (by rfl)) ?_
  refine ow_y (y_loadAgg F.ag175 rfl (by simp [Value.cells, hk]) (extract_all (by simp [Value.cells, hk]))) ?_
  refine ow_y (y_look2 (ek := sumV) (ev := intV) (k := k) F.mp193 keyS hm hk F.z3 rfl rfl aFd getInt) ?_
  refine ow_y (y_move rfl) ?_
  refine ow_y (y_ext rfl rfl) ?_
  refine ow_y (y_ext rfl rfl) ?_
  refine (ow_alloc F.z3 (fun b6 => ?_))
  refine (ow_alloc F.z4 (fun b7 => ?_))
  refine (ow_store F.sz3 rfl rfl (by first | rfl | assumption) (by rfl) (by (try simp only [List.set_cons_zero, List.set_cons_succ, Nat.reduceAdd, Nat.reduceMul, Int.reduceToNat, Nat.zero_add, Nat.add_zero]); rfl) ?_)
  refine (ow_store F.sz4 rfl rfl (by first | rfl | assumption) (by rfl) (by (try simp only [List.set_cons_zero, List.set_cons_succ, Nat.reduceAdd, Nat.reduceMul, Int.reduceToNat, Nat.zero_add, Nat.add_zero]); rfl) ?_)
  refine ow_nil ?_
  refine kw_code (fun _ _ h => h) ?_
  refine cw_seq ?_
  refine cw_region ?_
  refine ow_y (y_move rfl) ?_
  refine ow_y (y_func rfl rfl rfl) ?_
  refine ow_gives rfl F.hb127 rfl (back4 a by_ o log depth (.index k (mget k m)) _ ⟨hk, _, _, _, _, .inr rfl, rfl⟩ hn) aSp ?_
  try simp only [List.cons_append, List.nil_append]
  refine ow_nil ?_
  refine kw_code (fun _ _ h => h) ?_
  refine cw_region ?_
  refine ow_y (y_loadOwn F.sc193 rfl aFd List.mem_cons_self List.mem_cons_self rfl) ?_
  refine ow_y (y_loadAggOwn F.ag175 rfl aFd List.mem_cons_self (List.mem_cons_of_mem _ List.mem_cons_self) (by simp [hk]) (extract_all (by simp [hk]))) ?_
  refine ow_mapDel (ek := sumV) (ev := intV) (k := k) F.mp193 keyS hm hk rfl rfl aFd ?_
  refine ow_nil ?_
  refine kw_finE _ trivial rfl rfl aSp
theorem putEnt_spec (a : Ad) (by_ : Nat) (o : Own) (log : List Step) (depth : Nat) (m : List (Int × Ent)) (k : Int) (v : Ent) (hn : log.length < 1000000000) :
    Does Tryz.prog 80 #[ptr a.log, .map (some a.vols), .int .u32 k, entA v] [logO a by_ o log depth, mapP a.vols u32V entA m] (SetE a by_ o log depth (.vols k (mget k m)) [mapP a.vols u32V entA (mput k v m)]) := by
  refine does_enter Tryz.func80 rfl Tryz.ntmps80 rfl (fun R w0 => ?_)
  simp only [envOf, List.cons_append, List.nil_append, entA]
  refine cw_seq ?_
  refine cw_region ?_
  refine (ow_box rfl (fun b5 => ?_))
  refine (ow_box rfl (fun b6 => ?_))
  refine (ow_box rfl (fun b7 => ?_))
  refine ow_nil ?_
  refine kw_code (fun _ _ h => h) ?_
  refine cw_seq ?_
  refine cw_region ?_
  refine ow_y (y_load F.sc67 rfl (by rfl)) ?_
  refine ow_y (y_load F.sc26 rfl (by rfl)) ?_
  refine ow_y (y_look2 (ek := u32V) (ev := entA) (k := k) F.mp67 keyU (tt fun _ => trivial) trivial F.z72 rfl rfl aFd getEnt) ?_
  refine ow_y (y_move rfl) ?_
  refine ow_y (y_ext rfl rfl) ?_
  refine ow_y (y_ext rfl rfl) ?_
  refine (ow_alloc F.z72 (fun b8 => ?_))
  refine (ow_alloc F.z4 (fun b9 => ?_))
  refine ow_storeAgg F.sz72 rfl rfl rfl (by simp [entV, Value.oneCell']) (by simp [entV, Value.cells]) (splice_all (by simp [entV, Value.cells])) ?_
  refine (ow_store F.sz4 rfl rfl (by first | rfl | assumption) (by rfl) (by (try simp only [List.set_cons_zero, List.set_cons_succ, Nat.reduceAdd, Nat.reduceMul, Int.reduceToNat, Nat.zero_add, Nat.add_zero]); rfl) ?_)
  refine ow_nil ?_
  refine kw_code (fun _ _ h => h) ?_
  refine cw_seq ?_
  refine cw_region ?_
  refine ow_y (y_move rfl) ?_
  refine ow_y (y_func rfl rfl rfl) ?_
  refine ow_gives rfl F.hb127 rfl (back4 a by_ o log depth (.vols k (mget k m)) _ ⟨_, _, _, _, .inl rfl, rfl⟩ hn) aSp ?_
  try simp only [List.cons_append, List.nil_append]
  refine ow_nil ?_
  refine kw_code (fun _ _ h => h) ?_
  refine cw_region ?_
  refine ow_y (y_loadOwn F.sc67 rfl aFd List.mem_cons_self List.mem_cons_self rfl) ?_
  refine ow_y (y_loadOwn F.sc26 rfl aFd List.mem_cons_self (List.mem_cons_of_mem _ List.mem_cons_self) rfl) ?_
  refine ow_y (y_loadAgg F.ag72 rfl (by simp [Value.cells, entV]) (extract_all (by simp [Value.cells, entV]))) ?_
  refine ow_mapPut (ek := u32V) (ev := entA) (k := k) (v := v) F.mp67 keyU (tt fun _ => trivial) trivial rfl rfl rfl aFd ?_
  refine ow_nil ?_
  refine kw_finE _ trivial rfl rfl aSp
end Go.Proofs.YthlclfdnhnnebaaGreatDoor
end
section
set_option maxRecDepth 4000
set_option maxHeartbeats 4000000
namespace Go.Proofs.YthlclfdnhnnebaaGreatDoor
open Go.Sl Go.Sb
theorem setRow_spec (a : Ad) (by_ : Nat) (o : Own) (log : List Step) (depth : Nat) (gv to_ : Value) (keep : Int) (was : List Int) (gc : List (Nat × Obj)) (hn : log.length < 1000000000) (hg : goneIs gv was gc) (hto : to_.oneCell' = true) :
    Does Tryz.prog 246 #[ptr a.log, .pointer (some ⟨a.heap, 5, none⟩), to_] [logO a by_ o log depth, heapC a by_ gv keep, star (gc.map fun p => pts p.1 p.2)] (SetE a by_ o log depth (.gone was) [heapC a by_ to_ keep]) := by
  have hgv : gv.oneCell' = true := by rcases hg with ⟨_, ⟨_, rfl, _⟩ | ⟨_, _, _, rfl, _⟩⟩ <;> rfl
  have hb : ∀ b1 b2, Does Tryz.prog 127 #[ptr a.log, .func (.func 274) #[] #[ptr b1, ptr b2]] [logO a by_ o log depth, pts b1 (.cells #[gv] 109 (0, 0)), pts b2 (.cells #[.pointer (some ⟨a.heap, 5, none⟩)] 310 (0, 0)), star (gc.map fun p => pts p.1 p.2)]
      (Gives (.tuple #[]) [logO a by_ ((.gone was, clo 274 [b1, b2], cellB b1 109 gv :: cellB b2 310 (.pointer (some ⟨a.heap, 5, none⟩)) :: gc) :: o) (bk depth log (.gone was)) depth]) := by
    intro b1 b2 w F hs
    refine back_spec a by_ o log depth (.gone was) _ [b1, b2] (cellB b1 109 gv :: cellB b2 310 (.pointer (some ⟨a.heap, 5, none⟩)) :: gc) ⟨b1, b2, gv, gc, rfl, rfl, hg⟩ hn w F ?_
    simp only [List.cons_append, List.nil_append] at hs
    have h1 : Sat w ([star (gc.map fun p => pts p.1 p.2), F, pts b1 (.cells #[gv] 109 (0, 0)), pts b2 (.cells #[.pointer (some ⟨a.heap, 5, none⟩)] 310 (0, 0)), logO a by_ o log depth] ++ []) := hs.perm (show Split _ _ _ from aSp)
    have h2 := (sat_star.1 h1).perm List.perm_append_comm
    try simp only [List.cons_append, List.nil_append] at h2
    have h3 : Sat w ([pts b1 (.cells #[gv] 109 (0, 0)), pts b2 (.cells #[.pointer (some ⟨a.heap, 5, none⟩)] 310 (0, 0))] ++ (F :: logO a by_ o log depth :: (gc.map fun p => pts p.1 p.2))) := h2.perm (show Split _ _ _ from aSp)
    have h4 : Sat w (((cellB b1 109 gv :: cellB b2 310 (.pointer (some ⟨a.heap, 5, none⟩)) :: gc).map fun p => pts p.1 p.2) ++ [F, logO a by_ o log depth]) := by
      simp only [List.map_cons, List.cons_append]
      refine h3.perm (List.Perm.cons _ (List.Perm.cons _ ?_))
      exact List.perm_append_comm (l₁ := [F, logO a by_ o log depth])
    exact (sat_star.2 h4).perm (by show Split _ [_, _, _] []; exact aSp)
  refine does_enter Tryz.func246 rfl Tryz.ntmps246 rfl (fun R w0 => ?_)
  simp only [envOf, List.cons_append, List.nil_append, hcells]
  refine cw_seq ?_
  refine cw_region ?_
  refine (ow_box rfl (fun b4 => ?_))
  refine ow_nil ?_
  refine kw_code (fun _ _ h => h) ?_
  refine cw_seq ?_
  refine cw_region ?_
  refine ow_y (y_load F.sc310 rfl (by rfl)) ?_
  refine ow_y (y_nil rfl) ?_
  skip
  refine ow_y (y_load F.sc109 rfl (by rfl)) ?_
  refine (ow_alloc F.z109 (fun b6 => ?_))
  refine (ow_store F.sz109 rfl rfl hgv (by rfl) (by rfl) ?_)
  refine ow_nil ?_
  refine kw_code (fun _ _ h => h) ?_
  refine cw_seq ?_
  refine cw_region ?_
  refine ow_y (y_move rfl) ?_
  refine ow_y (y_func rfl rfl rfl) ?_
  refine ow_gives rfl F.hb127 rfl (hb _ _) aSp ?_
  try simp only [List.cons_append, List.nil_append]
  refine ow_nil ?_
  refine kw_code (fun _ _ h => h) ?_
  refine cw_region ?_
  refine ow_y (y_loadOwn F.sc310 rfl aFd List.mem_cons_self (List.mem_cons_of_mem _ List.mem_cons_self) rfl) ?_
  refine ow_y (y_move rfl) ?_
  refine ow_y (y_nil rfl) ?_
  refine (ow_store F.sz109 rfl rfl hto (by rfl) (by rfl) ?_)
  refine ow_nil ?_
  refine kw_finE _ trivial rfl rfl aSp
end Go.Proofs.YthlclfdnhnnebaaGreatDoor
end
