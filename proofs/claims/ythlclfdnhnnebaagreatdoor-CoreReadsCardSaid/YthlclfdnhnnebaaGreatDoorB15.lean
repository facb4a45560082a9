/- Part of the proof; no statement of its own: H7, D4F, D3F, Shelf, D3. -/
import Derived.Test.YthlclfdnhnnebaaGreatDoorB08
import Derived.Test.YthlclfdnhnnebaaGreatDoorB06
import Derived.Test.YthlclfdnhnnebaaGreatDoorB14
import Derived.Test.YthlclfdnhnnebaaGreatDoorProg
import Derived.KernelRfl
import Derived.Shelf.Strings.Builder1
import Derived.Shelf.Strings.Builder2
import Derived.Shelf.Strings.Trim
import Derived.Shelf.Small.Utf8
import Derived.Shelf.Small.Bits
import Derived.Shelf.Small.Strs
import Derived.Shelf.Small.Wraps
import Derived.Shelf.Strings.BuilderF
import Derived.Shelf.Strings.BuilderK
import Derived.Shelf.Strings.Builder2Cap
import Derived.Shelf.Strconv.Itoa0
import Derived.Shelf.Strings.Search1
import Derived.Shelf.Sort.Plain
import Derived.Shelf.Strings.Prefix
import Derived.Shelf.Unicode.Decode
import Derived.Shelf.Strings.Runes
import Derived.Shelf.Strings.AsciiSet
import Derived.Shelf.Bits.Mul64
import Derived.Shelf.Strings.Repeat
import Derived.Shelf.Unicode.DecodeSlow
import Derived.Shelf.Unicode.DecodeAny
import Derived.Shelf.Unicode.DecodeLast
import Derived.Shelf.Strings.BuilderCap
import Derived.Ground.Names2Prog
import Derived.Shelf.Slices.SearchI
import Derived.Shelf.Slices.In.SortNone
import Derived.Test.YthlclfdnhnnebaaGreatDoorB07
import Derived.Test.YthlclfdnhnnebaaGreatDoorB13
import Derived.Test.YthlclfdnhnnebaaGreatDoorB09
import Derived.Test.YthlclfdnhnnebaaGreatDoorB10
set_option linter.all false
section
set_option maxRecDepth 4000
set_option maxHeartbeats 4000000
namespace Go.Proofs.YthlclfdnhnnebaaGreatDoor
open Go.Sl Go.Sb
theorem setRow2 (a : Ad) (by_ : Nat) (o : Own) (log : List Step) (depth : Nat) (gv to_ : Value) (keep : Int) (was : List Int) (gc : List (Nat × Obj)) (hn : log.length < 1000000000) (hg : goneIs gv was gc) (hto : to_.oneCell' = true) :
    Does Tryz.prog 246 #[ptr a.log, .pointer (some ⟨a.heap, 5, none⟩), to_] (logO a by_ o log depth :: heapC a by_ gv keep :: cellsP gc) (SetE a by_ o log depth (.gone was) [heapC a by_ to_ keep]) :=
  does_pre (fun w F h => by
    have h1 : Sat w (logO a by_ o log depth :: heapC a by_ gv keep :: (cellsP gc ++ F)) := h
    have h2 : Sat w (cellsP gc ++ (F ++ [logO a by_ o log depth, heapC a by_ gv keep])) := (h1.perm (List.perm_append_comm (l₁ := [logO a by_ o log depth, heapC a by_ gv keep]) (l₂ := cellsP gc ++ F))).perm (by rw [List.append_assoc])
    have h3 : Sat w ((star (cellsP gc) :: F) ++ [logO a by_ o log depth, heapC a by_ gv keep]) := sat_star.2 h2
    exact h3.perm List.perm_append_comm) (setRow_spec a by_ o log depth gv to_ keep was gc hn hg hto)
abbrev stB (a : Ad) (b1 b2 : Nat) (k : Int) : Step × Value × List (Nat × Obj) := (.back k, clo 245 [b1, b2], [cellB b1 62 (ptr a.heap), cellB b2 3 (.int .i64 k)])
theorem hless_old (W : World) (a : Ad) (s : St) (at_ : Int) (h1 : refsOf s at_ = 1) (hi : inR at_ = true) (hn : s.log.length < 1000000000) (hn2 : (bk s.depth s.log (.refs at_ (mget at_ s.refs))).length < 1000000000) (hy : ¬ 0 < youngOf s at_) :
    Does Tryz.prog 193 #[ptr a.heap, .int .i64 at_] (RS W a s) (Ran fT (RS W a) (fun b => .bool b) ((.ok true, { s with refs := mdel at_ s.refs, g := mvL s.fr s.g at_ 1 2, log := bk s.depth (bk s.depth s.log (.refs at_ (mget at_ s.refs))) (.back at_) }) : Out Bool × St)) := by
  have h1' : (mget at_ s.refs).getD 0 = 1 := h1
  have hy' : ¬ 0 < (mget at_ s.young).getD 0 := hy
  refine does_enter Tryz.func193 rfl Tryz.ntmps193 rfl (fun R w0 => ?_)
  simp only [envOf, List.cons_append, List.nil_append]
  refine cw_hl aFd fun by_ gv gc o hg hok => ?_
  simp only [openTT, hcells, List.cons_append, List.nil_append]
  refine cw_seq ?_
  refine cw_region ?_
  refine (ow_box rfl (fun b2 => ?_))
  refine (ow_box rfl (fun b3 => ?_))
  refine ow_y (y_assign rfl) ?_
  refine ow_nil ?_
  refine kw_code (fun _ _ h => h) ?_
  refine cw_seq ?_
  refine cw_soft F.fol (by kernel_rfl) ?_
  refine os_y (y_load F.sc62 rfl (by rfl)) ?_
  refine os_y (y_nil rfl) ?_
  refine os_y (y_fld F.fld144_3 rfl) ?_
  refine os_y (y_load F.sc142 rfl (by rfl)) ?_
  refine os_y (y_load F.sc3 rfl (by rfl)) ?_
  refine os_y (y_look1 (ek := intV) (ev := intV) F.mp142 keyI (tt fun _ => trivial) trivial F.z3 rfl rfl aFd getInt) ?_
  refine os_y (y_assign rfl) ?_
  refine os_nil ?_
  refine kw_code (fun _ _ h => h) ?_
  refine cw_seq ?_
  refine cw_seq ?_
  refine cw_region ?_
  refine ow_y (y_move rfl) ?_
  refine ow_nil ?_
  refine kw_code (fun _ _ h => h) ?_
  refine cw_block ?_
  refine cw_seq ?_
  refine cw_region ?_
  refine ow_y (y_eql rfl rfl) ?_
  refine ow_y (y_assign rfl) ?_
  refine ow_nil ?_
  refine kw_code (fun _ _ h => h) ?_
  refine cw_false rfl (by simp [h1']) ?_
  refine cw_seq ?_
  refine cw_region ?_
  refine ow_y (y_eql rfl rfl) ?_
  refine ow_y (y_assign rfl) ?_
  refine ow_nil ?_
  refine kw_code (fun _ _ h => h) ?_
  refine cw_true rfl (by simp [h1']) ?_
  refine cw_seq ?_
  refine cw_tail 9 F.fol (by kernel_rfl) ?_
  simp only [List.take_succ_cons, List.take_zero, List.drop_succ_cons, List.drop_zero]
  refine os_y (y_load F.sc62 rfl (by rfl)) ?_
  refine os_y (y_nil rfl) ?_
  refine os_y (y_fld F.fld144_1 rfl) ?_
  refine os_y (y_load F.sc136 rfl (by rfl)) ?_
  refine os_y (y_load F.sc62 rfl (by rfl)) ?_
  refine os_y (y_nil rfl) ?_
  refine os_y (y_fld F.fld144_3 rfl) ?_
  refine os_y (y_load F.sc142 rfl (by rfl)) ?_
  refine os_y (y_load F.sc3 rfl (by rfl)) ?_
  refine os_nil ?_
  refine ow_givesE rfl F.hb243 rfl (dropInt_spec a by_ o s.log s.depth a.refs s.refs at_ (.refs at_ (mget at_ s.refs)) hn (fun _ _ _ _ => ⟨_, _, _, _, .inr rfl, rfl⟩)) aSp ?_
  rintro e _
  try simp only [List.cons_append, List.nil_append]
  refine ow_nil ?_
  refine kw_code (fun _ _ h => h) ?_
  refine cw_seq ?_
  refine cw_tail 5 F.fol (by kernel_rfl) ?_
  simp only [List.take_succ_cons, List.take_zero, List.drop_succ_cons, List.drop_zero]
  refine os_y (y_load F.sc62 rfl (by rfl)) ?_
  refine os_y (y_nil rfl) ?_
  refine os_y (y_fld F.fld144_2 rfl) ?_
  refine os_y (y_load F.sc140 rfl (by rfl)) ?_
  refine os_y (y_load F.sc3 rfl (by rfl)) ?_
  refine os_nil ?_
  refine ow_gives rfl F.hb244 rfl (glater_spec a.gr a.grl s.fr s.g at_ (rangeR hi) hok.1 hok.2.1) aSp ?_
  try simp only [List.cons_append, List.nil_append]
  refine ow_nil ?_
  refine kw_code (fun _ _ h => h) ?_
  refine cw_seq ?_
  refine cw_region ?_
  refine ow_y (y_load F.sc62 rfl (by rfl)) ?_
  refine ow_y (y_nil rfl) ?_
  refine ow_y (y_fld F.fld144_1 rfl) ?_
  refine ow_y (y_load F.sc136 rfl (by rfl)) ?_
  refine ow_y (y_func rfl rfl rfl) ?_
  refine ow_gives rfl F.hb127 rfl (back2 a by_ (e :: o) (bk s.depth s.log (.refs at_ (mget at_ s.refs))) s.depth (.back at_) _ ⟨hi, _, _, rfl, rfl⟩ hn2) aSp ?_
  try simp only [List.cons_append, List.nil_append]
  refine ow_nil ?_
  refine kw_code (fun _ _ h => h) ?_
  refine cw_seq ?_
  refine cw_seq ?_
  refine cw_soft F.fol (by kernel_rfl) ?_
  refine os_y (y_loadOwn F.sc62 rfl aFd List.mem_cons_self List.mem_cons_self rfl) ?_
  refine os_y (y_nil rfl) ?_
  refine os_y (y_fld F.fld144_4 rfl) ?_
  refine os_y (y_load F.sc142 rfl (by rfl)) ?_
  refine os_y (y_loadOwn F.sc3 rfl aFd List.mem_cons_self (List.mem_cons_of_mem _ List.mem_cons_self) rfl) ?_
  refine os_y (y_look1 (ek := intV) (ev := intV) F.mp142 keyI (tt fun _ => trivial) trivial F.z3 rfl rfl aFd getInt) ?_
  refine os_y (y_gtr rfl rfl) ?_
  refine os_nil ?_
  refine kw_code (fun _ _ h => h) ?_
  refine cw_false rfl (by simpa using hy') ?_
  refine cw_skip ?_
  refine kw_code (fun _ _ h => h) ?_
  refine cw_seq ?_
  refine cw_region ?_
  refine ow_y (y_assign rfl) ?_
  refine ow_nil ?_
  refine kw_code (fun _ _ h => h) ?_
  refine cw_said (sat_hl (s := { s with refs := mdel at_ s.refs, g := mvL s.fr s.g at_ 1 2, log := bk s.depth (bk s.depth s.log (.refs at_ (mget at_ s.refs))) (.back at_) }) hg (by exact ⟨hok.1, by simpa [mvL_len] using hok.2.1, mvL_mem (by omega) hok.2.2.1, hok.2.2.2⟩) aSp) (cw_retR rfl (fun _ _ h => h) rfl rfl aSp)
theorem hless_young (W : World) (a : Ad) (s : St) (at_ : Int) (h1 : refsOf s at_ = 1) (hi : inR at_ = true) (hn : s.log.length < 1000000000) (hn2 : (bk s.depth s.log (.refs at_ (mget at_ s.refs))).length < 1000000000) (hy : 0 < youngOf s at_)
    (hgl : s.gone.length + 1 < 1000000000) (hn3 : (bk s.depth (bk s.depth s.log (.refs at_ (mget at_ s.refs))) (.back at_)).length < 1000000000) (hn4 : (bk s.depth (bk s.depth (bk s.depth s.log (.refs at_ (mget at_ s.refs))) (.back at_)) (.young at_ (mget at_ s.young))).length < 1000000000) :
    Does Tryz.prog 193 #[ptr a.heap, .int .i64 at_] (RS W a s) (Ran fT (RS W a) (fun b => .bool b) ((.ok true, { s with refs := mdel at_ s.refs, g := mvL s.fr s.g at_ 1 2, young := mdel at_ s.young, gone := s.gone ++ [at_], log := bk s.depth (bk s.depth (bk s.depth (bk s.depth s.log (.refs at_ (mget at_ s.refs))) (.back at_)) (.young at_ (mget at_ s.young))) (.gone s.gone) }) : Out Bool × St)) := by
  have h1' : (mget at_ s.refs).getD 0 = 1 := h1
  have hy' : 0 < (mget at_ s.young).getD 0 := hy
  refine does_enter Tryz.func193 rfl Tryz.ntmps193 rfl (fun R w0 => ?_)
  simp only [envOf, List.cons_append, List.nil_append]
  refine cw_hl aFd fun by_ gv gc o hg hok => ?_
  have hok' : StOK { s with refs := mdel at_ s.refs, g := mvL s.fr s.g at_ 1 2, young := mdel at_ s.young, gone := s.gone ++ [at_], log := bk s.depth (bk s.depth (bk s.depth (bk s.depth s.log (.refs at_ (mget at_ s.refs))) (.back at_)) (.young at_ (mget at_ s.young))) (.gone s.gone) } := ⟨hok.1, by simpa [mvL_len] using hok.2.1, mvL_mem (by omega) hok.2.2.1, hok.2.2.2⟩
  simp only [openTT, hcells, List.cons_append, List.nil_append]
  have hg0 := hg
  obtain ⟨hgr, ⟨hgn, rfl, rfl⟩ | ⟨g, cap, cur, rfl, hcap, hmx, hcl, htk, rfl⟩⟩ := hg
  · skip
    refine cw_seq ?_
    refine cw_region ?_
    refine (ow_box rfl (fun b2 => ?_))
    refine (ow_box rfl (fun b3 => ?_))
    refine ow_y (y_assign rfl) ?_
    refine ow_nil ?_
    refine kw_code (fun _ _ h => h) ?_
    refine cw_seq ?_
    refine cw_soft F.fol (by kernel_rfl) ?_
    refine os_y (y_load F.sc62 rfl (by rfl)) ?_
    refine os_y (y_nil rfl) ?_
    refine os_y (y_fld F.fld144_3 rfl) ?_
    refine os_y (y_load F.sc142 rfl (by rfl)) ?_
    refine os_y (y_load F.sc3 rfl (by rfl)) ?_
    refine os_y (y_look1 (ek := intV) (ev := intV) F.mp142 keyI (tt fun _ => trivial) trivial F.z3 rfl rfl aFd getInt) ?_
    refine os_y (y_assign rfl) ?_
    refine os_nil ?_
    refine kw_code (fun _ _ h => h) ?_
    refine cw_seq ?_
    refine cw_seq ?_
    refine cw_region ?_
    refine ow_y (y_move rfl) ?_
    refine ow_nil ?_
    refine kw_code (fun _ _ h => h) ?_
    refine cw_block ?_
    refine cw_seq ?_
    refine cw_region ?_
    refine ow_y (y_eql rfl rfl) ?_
    refine ow_y (y_assign rfl) ?_
    refine ow_nil ?_
    refine kw_code (fun _ _ h => h) ?_
    refine cw_false rfl (by simp [h1']) ?_
    refine cw_seq ?_
    refine cw_region ?_
    refine ow_y (y_eql rfl rfl) ?_
    refine ow_y (y_assign rfl) ?_
    refine ow_nil ?_
    refine kw_code (fun _ _ h => h) ?_
    refine cw_true rfl (by simp [h1']) ?_
    refine cw_seq ?_
    refine cw_tail 9 F.fol (by kernel_rfl) ?_
    simp only [List.take_succ_cons, List.take_zero, List.drop_succ_cons, List.drop_zero]
    refine os_y (y_load F.sc62 rfl (by rfl)) ?_
    refine os_y (y_nil rfl) ?_
    refine os_y (y_fld F.fld144_1 rfl) ?_
    refine os_y (y_load F.sc136 rfl (by rfl)) ?_
    refine os_y (y_load F.sc62 rfl (by rfl)) ?_
    refine os_y (y_nil rfl) ?_
    refine os_y (y_fld F.fld144_3 rfl) ?_
    refine os_y (y_load F.sc142 rfl (by rfl)) ?_
    refine os_y (y_load F.sc3 rfl (by rfl)) ?_
    refine os_nil ?_
    refine ow_givesE rfl F.hb243 rfl (dropInt_spec a by_ o s.log s.depth a.refs s.refs at_ (.refs at_ (mget at_ s.refs)) hn (fun _ _ _ _ => ⟨_, _, _, _, .inr rfl, rfl⟩)) aSp ?_
    rintro e _
    try simp only [List.cons_append, List.nil_append]
    refine ow_nil ?_
    refine kw_code (fun _ _ h => h) ?_
    refine cw_seq ?_
    refine cw_tail 5 F.fol (by kernel_rfl) ?_
    simp only [List.take_succ_cons, List.take_zero, List.drop_succ_cons, List.drop_zero]
    refine os_y (y_load F.sc62 rfl (by rfl)) ?_
    refine os_y (y_nil rfl) ?_
    refine os_y (y_fld F.fld144_2 rfl) ?_
    refine os_y (y_load F.sc140 rfl (by rfl)) ?_
    refine os_y (y_load F.sc3 rfl (by rfl)) ?_
    refine os_nil ?_
    refine ow_gives rfl F.hb244 rfl (glater_spec a.gr a.grl s.fr s.g at_ (rangeR hi) hok.1 hok.2.1) aSp ?_
    try simp only [List.cons_append, List.nil_append]
    refine ow_nil ?_
    refine kw_code (fun _ _ h => h) ?_
    refine cw_seq ?_
    refine cw_region ?_
    refine ow_y (y_load F.sc62 rfl (by rfl)) ?_
    refine ow_y (y_nil rfl) ?_
    refine ow_y (y_fld F.fld144_1 rfl) ?_
    refine ow_y (y_load F.sc136 rfl (by rfl)) ?_
    refine ow_y (y_func rfl rfl rfl) ?_
    refine ow_gives rfl F.hb127 rfl (back2 a by_ (e :: o) (bk s.depth s.log (.refs at_ (mget at_ s.refs))) s.depth (.back at_) _ ⟨hi, _, _, rfl, rfl⟩ hn2) aSp ?_
    try simp only [List.cons_append, List.nil_append]
    refine ow_nil ?_
    refine kw_code (fun _ _ h => h) ?_
    refine cw_seq ?_
    refine cw_seq ?_
    refine cw_soft F.fol (by kernel_rfl) ?_
    refine os_y (y_loadOwn F.sc62 rfl aFd List.mem_cons_self List.mem_cons_self rfl) ?_
    refine os_y (y_nil rfl) ?_
    refine os_y (y_fld F.fld144_4 rfl) ?_
    refine os_y (y_load F.sc142 rfl (by rfl)) ?_
    refine os_y (y_loadOwn F.sc3 rfl aFd List.mem_cons_self (List.mem_cons_of_mem _ List.mem_cons_self) rfl) ?_
    refine os_y (y_look1 (ek := intV) (ev := intV) F.mp142 keyI (tt fun _ => trivial) trivial F.z3 rfl rfl aFd getInt) ?_
    refine os_y (y_gtr rfl rfl) ?_
    refine os_nil ?_
    refine kw_code (fun _ _ h => h) ?_
    refine cw_true rfl (by simpa using hy') ?_
    refine cw_seq ?_
    refine cw_tail 9 F.fol (by kernel_rfl) ?_
    simp only [List.take_succ_cons, List.take_zero, List.drop_succ_cons, List.drop_zero]
    refine os_y (y_loadOwn F.sc62 rfl aFd List.mem_cons_self List.mem_cons_self rfl) ?_
    refine os_y (y_nil rfl) ?_
    refine os_y (y_fld F.fld144_1 rfl) ?_
    refine os_y (y_load F.sc136 rfl (by rfl)) ?_
    refine os_y (y_loadOwn F.sc62 rfl aFd List.mem_cons_self List.mem_cons_self rfl) ?_
    refine os_y (y_nil rfl) ?_
    refine os_y (y_fld F.fld144_4 rfl) ?_
    refine os_y (y_load F.sc142 rfl (by rfl)) ?_
    refine os_y (y_loadOwn F.sc3 rfl aFd List.mem_cons_self (List.mem_cons_of_mem _ List.mem_cons_self) rfl) ?_
    refine os_nil ?_
    refine ow_givesE rfl F.hb243 rfl (dropInt_spec a by_ (stB a b2 b3 at_ :: e :: o) (bk s.depth (bk s.depth s.log (.refs at_ (mget at_ s.refs))) (.back at_)) s.depth by_ s.young at_ (.young at_ (mget at_ s.young)) hn3 (fun _ _ _ _ => ⟨_, _, _, _, .inr rfl, rfl⟩)) aSp ?_
    rintro e2 _
    try simp only [List.cons_append, List.nil_append]
    refine ow_nil ?_
    refine kw_code (fun _ _ h => h) ?_
    refine cw_floatN 25 (by rfl) (.soft 0 (.soft 1 (.soft 2 (.soft 3 (.soft 4 (.soft 5 (.soft 6 (.soft 7 (.soft 8 (.soft 9 (.soft 10 (.soft 11 (.soft 12 (.soft 13 (.soft 14 (.soft 15 (.soft 16 (.soft 17 (.soft 18 (.soft 19 (.soft 20 (.soft 21 (.soft 22 (.hard 23 (.hard 24 .done))))))))))))))))))))))))) [heapC a by_ (.slice none 0 0) s.keep, logO a by_ (e2 :: stB a b2 b3 at_ :: e :: o) (bk s.depth (bk s.depth (bk s.depth s.log (.refs at_ (mget at_ s.refs))) (.back at_)) (.young at_ (mget at_ s.young))) s.depth] F.fol (by kernel_rfl) (by repeat (first | with_reducible exact NoSlots.bp | with_reducible apply NoSlots.then | with_reducible apply NoSlots.inBlock)) aSp ?_
    simp only [List.take_succ_cons, List.take_zero]
    refine omf_y rfl (y_loadOwn F.sc62 rfl aFd (List.mem_cons_of_mem _ List.mem_cons_self) List.mem_cons_self rfl) ?_
    refine omf_y rfl (y_nil rfl) ?_
    refine omf_y rfl (y_fld F.fld144_1 rfl) ?_
    refine omf_y rfl (y_load F.sc136 rfl (by rfl)) ?_
    refine omf_y rfl (y_loadOwn F.sc62 rfl aFd (List.mem_cons_of_mem _ List.mem_cons_self) List.mem_cons_self rfl) ?_
    refine omf_y rfl (y_nil rfl) ?_
    refine omf_y rfl (y_fld F.fld144_5 rfl) ?_
    refine omf_y rfl (y_loadOwn F.sc62 rfl aFd (List.mem_cons_of_mem _ List.mem_cons_self) List.mem_cons_self rfl) ?_
    refine omf_y rfl (y_nil rfl) ?_
    refine omf_y rfl (y_fld F.fld144_5 rfl) ?_
    refine omf_y rfl (y_load F.sc109 rfl (by rfl)) ?_
    refine omf_y rfl (y_loadOwn F.sc62 rfl aFd (List.mem_cons_of_mem _ List.mem_cons_self) List.mem_cons_self rfl) ?_
    refine omf_y rfl (y_nil rfl) ?_
    refine omf_y rfl (y_fld F.fld144_5 rfl) ?_
    refine omf_y rfl (y_load F.sc109 rfl (by rfl)) ?_
    refine omf_y rfl (y_len_slice F.sl109 rfl) ?_
    refine omf_y rfl (y_loadOwn F.sc62 rfl aFd (List.mem_cons_of_mem _ List.mem_cons_self) List.mem_cons_self rfl) ?_
    refine omf_y rfl (y_nil rfl) ?_
    refine omf_y rfl (y_fld F.fld144_5 rfl) ?_
    refine omf_y rfl (y_load F.sc109 rfl (by rfl)) ?_
    refine omf_y rfl (y_len_slice F.sl109 rfl) ?_
    refine omf_y rfl (y_sliceHM F.sl109 rfl rfl rfl (by omega)) ?_
    refine omf_y rfl (y_loadOwn F.sc3 rfl aFd (List.mem_cons_of_mem _ List.mem_cons_self) (List.mem_cons_of_mem _ List.mem_cons_self) rfl) ?_
    refine omf_hard rfl (fun hok EE FF => ?_)
    simp only [List.cons_append, List.nil_append]
    refine (ow_buildSlice F.sl109 F.z3 rfl rfl rfl (by simp [fillL, madeL, Value.cells] <;> rfl) (fun b80 => ?_))
    refine ow_nil ?_
    refine omf_next (E := EE) (F := FF) (by repeat (first | exact Tl.nil | apply Tl.cons)) aFd aSp (hok.put rfl) ?_
    refine omf_hard rfl (fun hok EE FF => ?_)
    simp only [List.cons_append, List.nil_append]
    refine ow_appendFull F.sl109 F.tb3 F.z3 rfl rfl rfl hold_nil rfl (src_blk F.sl109 (by simp; rfl) (by simp) (by simp [Value.oneCell'])) (by omega) (by simp only [maxLen]; omega) (by omega) (fun b81 cap81 cur81 ha hb hc hd => ?_)
    refine ow_nil ?_
    refine omf_next (E := EE) (F := FF) (by repeat (first | exact Tl.nil | apply Tl.cons)) aFd aSp (hok.put rfl) ?_
    refine omf_nil ?_
    refine kw_last ?_
    refine ow_givesE rfl F.hb246 rfl (setRow2 a by_ (e2 :: stB a b2 b3 at_ :: e :: o) (bk s.depth (bk s.depth (bk s.depth s.log (.refs at_ (mget at_ s.refs))) (.back at_)) (.young at_ (mget at_ s.young))) s.depth (.slice none 0 0) _ s.keep s.gone [] hn4 hg0 rfl) aSp ?_
    rintro e3 _
    try simp only [List.cons_append, List.nil_append]
    refine ow_nil ?_
    refine kw_code (fun _ _ h => h) ?_
    refine cw_seq ?_
    have h9 := gone_more (b := b81) hg0 hi (by rw [hgn]; exact ha) hb hc (by rw [hgn]; exact hd)
    refine cw_said (L' := star (cellsP [(b81, .cells cur81.toArray 3 (0, 0))]) :: _) (fun w h => sat_star.2 ((show Fnd _ (pts b81 _) _ from aFd).sat h)) ?_
    refine cw_region ?_
    refine ow_y (y_assign rfl) ?_
    refine ow_nil ?_
    refine kw_code (fun _ _ h => h) ?_
    refine cw_said (sat_hl (s := { s with refs := mdel at_ s.refs, g := mvL s.fr s.g at_ 1 2, young := mdel at_ s.young, gone := s.gone ++ [at_], log := bk s.depth (bk s.depth (bk s.depth (bk s.depth s.log (.refs at_ (mget at_ s.refs))) (.back at_)) (.young at_ (mget at_ s.young))) (.gone s.gone) }) (by_ := by_) (gv := .slice (some ⟨b81, 0, none⟩) (0 + 1) cap81) (gc := [(b81, .cells cur81.toArray 3 (0, 0))]) (by rw [hgn] at h9 ⊢; exact h9) hok' aSp) (cw_retR rfl (fun _ _ h => h) rfl rfl aSp)
  · try simp only [cellsP, List.map_cons, List.map_nil]
    refine cw_said (L' := pts g (.cells cur.toArray 3 (0, 0)) :: [heapC a by_ (.slice (some ⟨g, 0, none⟩) s.gone.length cap) s.keep, logO a by_ o s.log s.depth, mapP by_ intV intV s.young, mapP a.refs intV intV s.refs, mapP a.ix sumV intV s.index, mapP a.vols u32V entA s.vols, coreC a s.next s.epoch, pts a.gr (.cells (gcells s.fr a.grl s.g).toArray 198 (0, 0)), pts a.grl (.cells (s.g.map gst).toArray 3 (0, 0)), whole W, dkC a s.d, dkR a s.d, fact (DkOK s.d), stC a s.bits, mpC a, R]) (fun w h => ?_) ?_
    · have h1 := sat_star.1 ((show Fnd _ (star _) _ from aFd).sat h)
      exact h1.re aSp
    try simp only [hcells]
    refine cw_seq ?_
    refine cw_region ?_
    refine (ow_box rfl (fun b2 => ?_))
    refine (ow_box rfl (fun b3 => ?_))
    refine ow_y (y_assign rfl) ?_
    refine ow_nil ?_
    refine kw_code (fun _ _ h => h) ?_
    refine cw_seq ?_
    refine cw_soft F.fol (by kernel_rfl) ?_
    refine os_y (y_load F.sc62 rfl (by rfl)) ?_
    refine os_y (y_nil rfl) ?_
    refine os_y (y_fld F.fld144_3 rfl) ?_
    refine os_y (y_load F.sc142 rfl (by rfl)) ?_
    refine os_y (y_load F.sc3 rfl (by rfl)) ?_
    refine os_y (y_look1 (ek := intV) (ev := intV) F.mp142 keyI (tt fun _ => trivial) trivial F.z3 rfl rfl aFd getInt) ?_
    refine os_y (y_assign rfl) ?_
    refine os_nil ?_
    refine kw_code (fun _ _ h => h) ?_
    refine cw_seq ?_
    refine cw_seq ?_
    refine cw_region ?_
    refine ow_y (y_move rfl) ?_
    refine ow_nil ?_
    refine kw_code (fun _ _ h => h) ?_
    refine cw_block ?_
    refine cw_seq ?_
    refine cw_region ?_
    refine ow_y (y_eql rfl rfl) ?_
    refine ow_y (y_assign rfl) ?_
    refine ow_nil ?_
    refine kw_code (fun _ _ h => h) ?_
    refine cw_false rfl (by simp [h1']) ?_
    refine cw_seq ?_
    refine cw_region ?_
    refine ow_y (y_eql rfl rfl) ?_
    refine ow_y (y_assign rfl) ?_
    refine ow_nil ?_
    refine kw_code (fun _ _ h => h) ?_
    refine cw_true rfl (by simp [h1']) ?_
    refine cw_seq ?_
    refine cw_tail 9 F.fol (by kernel_rfl) ?_
    simp only [List.take_succ_cons, List.take_zero, List.drop_succ_cons, List.drop_zero]
    refine os_y (y_load F.sc62 rfl (by rfl)) ?_
    refine os_y (y_nil rfl) ?_
    refine os_y (y_fld F.fld144_1 rfl) ?_
    refine os_y (y_load F.sc136 rfl (by rfl)) ?_
    refine os_y (y_load F.sc62 rfl (by rfl)) ?_
    refine os_y (y_nil rfl) ?_
    refine os_y (y_fld F.fld144_3 rfl) ?_
    refine os_y (y_load F.sc142 rfl (by rfl)) ?_
    refine os_y (y_load F.sc3 rfl (by rfl)) ?_
    refine os_nil ?_
    refine ow_givesE rfl F.hb243 rfl (dropInt_spec a by_ o s.log s.depth a.refs s.refs at_ (.refs at_ (mget at_ s.refs)) hn (fun _ _ _ _ => ⟨_, _, _, _, .inr rfl, rfl⟩)) aSp ?_
    rintro e _
    try simp only [List.cons_append, List.nil_append]
    refine ow_nil ?_
    refine kw_code (fun _ _ h => h) ?_
    refine cw_seq ?_
    refine cw_tail 5 F.fol (by kernel_rfl) ?_
    simp only [List.take_succ_cons, List.take_zero, List.drop_succ_cons, List.drop_zero]
    refine os_y (y_load F.sc62 rfl (by rfl)) ?_
    refine os_y (y_nil rfl) ?_
    refine os_y (y_fld F.fld144_2 rfl) ?_
    refine os_y (y_load F.sc140 rfl (by rfl)) ?_
    refine os_y (y_load F.sc3 rfl (by rfl)) ?_
    refine os_nil ?_
    refine ow_gives rfl F.hb244 rfl (glater_spec a.gr a.grl s.fr s.g at_ (rangeR hi) hok.1 hok.2.1) aSp ?_
    try simp only [List.cons_append, List.nil_append]
    refine ow_nil ?_
    refine kw_code (fun _ _ h => h) ?_
    refine cw_seq ?_
    refine cw_region ?_
    refine ow_y (y_load F.sc62 rfl (by rfl)) ?_
    refine ow_y (y_nil rfl) ?_
    refine ow_y (y_fld F.fld144_1 rfl) ?_
    refine ow_y (y_load F.sc136 rfl (by rfl)) ?_
    refine ow_y (y_func rfl rfl rfl) ?_
    refine ow_gives rfl F.hb127 rfl (back2 a by_ (e :: o) (bk s.depth s.log (.refs at_ (mget at_ s.refs))) s.depth (.back at_) _ ⟨hi, _, _, rfl, rfl⟩ hn2) aSp ?_
    try simp only [List.cons_append, List.nil_append]
    refine ow_nil ?_
    refine kw_code (fun _ _ h => h) ?_
    refine cw_seq ?_
    refine cw_seq ?_
    refine cw_soft F.fol (by kernel_rfl) ?_
    refine os_y (y_loadOwn F.sc62 rfl aFd List.mem_cons_self List.mem_cons_self rfl) ?_
    refine os_y (y_nil rfl) ?_
    refine os_y (y_fld F.fld144_4 rfl) ?_
    refine os_y (y_load F.sc142 rfl (by rfl)) ?_
    refine os_y (y_loadOwn F.sc3 rfl aFd List.mem_cons_self (List.mem_cons_of_mem _ List.mem_cons_self) rfl) ?_
    refine os_y (y_look1 (ek := intV) (ev := intV) F.mp142 keyI (tt fun _ => trivial) trivial F.z3 rfl rfl aFd getInt) ?_
    refine os_y (y_gtr rfl rfl) ?_
    refine os_nil ?_
    refine kw_code (fun _ _ h => h) ?_
    refine cw_true rfl (by simpa using hy') ?_
    refine cw_seq ?_
    refine cw_tail 9 F.fol (by kernel_rfl) ?_
    simp only [List.take_succ_cons, List.take_zero, List.drop_succ_cons, List.drop_zero]
    refine os_y (y_loadOwn F.sc62 rfl aFd List.mem_cons_self List.mem_cons_self rfl) ?_
    refine os_y (y_nil rfl) ?_
    refine os_y (y_fld F.fld144_1 rfl) ?_
    refine os_y (y_load F.sc136 rfl (by rfl)) ?_
    refine os_y (y_loadOwn F.sc62 rfl aFd List.mem_cons_self List.mem_cons_self rfl) ?_
    refine os_y (y_nil rfl) ?_
    refine os_y (y_fld F.fld144_4 rfl) ?_
    refine os_y (y_load F.sc142 rfl (by rfl)) ?_
    refine os_y (y_loadOwn F.sc3 rfl aFd List.mem_cons_self (List.mem_cons_of_mem _ List.mem_cons_self) rfl) ?_
    refine os_nil ?_
    refine ow_givesE rfl F.hb243 rfl (dropInt_spec a by_ (stB a b2 b3 at_ :: e :: o) (bk s.depth (bk s.depth s.log (.refs at_ (mget at_ s.refs))) (.back at_)) s.depth by_ s.young at_ (.young at_ (mget at_ s.young)) hn3 (fun _ _ _ _ => ⟨_, _, _, _, .inr rfl, rfl⟩)) aSp ?_
    rintro e2 _
    try simp only [List.cons_append, List.nil_append]
    refine ow_nil ?_
    refine kw_code (fun _ _ h => h) ?_
    refine cw_floatN 25 (by rfl) (.soft 0 (.soft 1 (.soft 2 (.soft 3 (.soft 4 (.soft 5 (.soft 6 (.soft 7 (.soft 8 (.soft 9 (.soft 10 (.soft 11 (.soft 12 (.soft 13 (.soft 14 (.soft 15 (.soft 16 (.soft 17 (.soft 18 (.soft 19 (.soft 20 (.soft 21 (.soft 22 (.hard 23 (.hard 24 .done))))))))))))))))))))))))) [pts g (.cells cur.toArray 3 (0, 0)), heapC a by_ (.slice (some ⟨g, 0, none⟩) s.gone.length cap) s.keep, logO a by_ (e2 :: stB a b2 b3 at_ :: e :: o) (bk s.depth (bk s.depth (bk s.depth s.log (.refs at_ (mget at_ s.refs))) (.back at_)) (.young at_ (mget at_ s.young))) s.depth] F.fol (by kernel_rfl) (by repeat (first | with_reducible exact NoSlots.bp | with_reducible apply NoSlots.then | with_reducible apply NoSlots.inBlock)) aSp ?_
    simp only [List.take_succ_cons, List.take_zero]
    refine omf_y rfl (y_loadOwn F.sc62 rfl aFd (List.mem_cons_of_mem _ List.mem_cons_self) List.mem_cons_self rfl) ?_
    refine omf_y rfl (y_nil rfl) ?_
    refine omf_y rfl (y_fld F.fld144_1 rfl) ?_
    refine omf_y rfl (y_load F.sc136 rfl (by rfl)) ?_
    refine omf_y rfl (y_loadOwn F.sc62 rfl aFd (List.mem_cons_of_mem _ List.mem_cons_self) List.mem_cons_self rfl) ?_
    refine omf_y rfl (y_nil rfl) ?_
    refine omf_y rfl (y_fld F.fld144_5 rfl) ?_
    refine omf_y rfl (y_loadOwn F.sc62 rfl aFd (List.mem_cons_of_mem _ List.mem_cons_self) List.mem_cons_self rfl) ?_
    refine omf_y rfl (y_nil rfl) ?_
    refine omf_y rfl (y_fld F.fld144_5 rfl) ?_
    refine omf_y rfl (y_load F.sc109 rfl (by rfl)) ?_
    refine omf_y rfl (y_loadOwn F.sc62 rfl aFd (List.mem_cons_of_mem _ List.mem_cons_self) List.mem_cons_self rfl) ?_
    refine omf_y rfl (y_nil rfl) ?_
    refine omf_y rfl (y_fld F.fld144_5 rfl) ?_
    refine omf_y rfl (y_load F.sc109 rfl (by rfl)) ?_
    refine omf_y rfl (y_len_slice F.sl109 rfl) ?_
    refine omf_y rfl (y_loadOwn F.sc62 rfl aFd (List.mem_cons_of_mem _ List.mem_cons_self) List.mem_cons_self rfl) ?_
    refine omf_y rfl (y_nil rfl) ?_
    refine omf_y rfl (y_fld F.fld144_5 rfl) ?_
    refine omf_y rfl (y_load F.sc109 rfl (by rfl)) ?_
    refine omf_y rfl (y_len_slice F.sl109 rfl) ?_
    refine omf_y rfl (y_sliceHM F.sl109 rfl rfl rfl (by omega)) ?_
    refine omf_y rfl (y_loadOwn F.sc3 rfl aFd (List.mem_cons_of_mem _ List.mem_cons_self) (List.mem_cons_of_mem _ List.mem_cons_self) rfl) ?_
    refine omf_hard rfl (fun hok EE FF => ?_)
    simp only [List.cons_append, List.nil_append]
    refine (ow_buildSlice F.sl109 F.z3 rfl rfl rfl (by simp [fillL, madeL, Value.cells] <;> rfl) (fun b80 => ?_))
    refine ow_nil ?_
    refine omf_next (E := EE) (F := FF) (by repeat (first | exact Tl.nil | apply Tl.cons)) aFd aSp (hok.put rfl) ?_
    refine omf_hard rfl (fun hok EE FF => ?_)
    simp only [List.cons_append, List.nil_append]
    refine ow_appendFull F.sl109 F.tb3 F.z3 rfl rfl rfl (hold_row (xs := s.gone.map intV) (g := g) (by rw [hcl]; omega) (by rw [Nat.mul_one]; exact htk)) (by simp) (src_blk F.sl109 (by simp; rfl) (by simp) (by simp [Value.oneCell'])) (by omega) (by simp only [maxLen]; omega) (by omega) (fun b81 cap81 cur81 ha hb hc hd => ?_)
    refine ow_nil ?_
    refine omf_next (E := EE) (F := FF) (by repeat (first | exact Tl.nil | apply Tl.cons)) aFd aSp (hok.put rfl) ?_
    refine omf_nil ?_
    refine kw_last ?_
    refine ow_givesE rfl F.hb246 rfl (setRow2 a by_ (e2 :: stB a b2 b3 at_ :: e :: o) (bk s.depth (bk s.depth (bk s.depth s.log (.refs at_ (mget at_ s.refs))) (.back at_)) (.young at_ (mget at_ s.young))) s.depth (.slice (some ⟨g, 0, none⟩) s.gone.length cap) _ s.keep s.gone [(g, .cells cur.toArray 3 (0, 0))] hn4 hg0 rfl) aSp ?_
    rintro e3 _
    try simp only [List.cons_append, List.nil_append]
    refine ow_nil ?_
    refine kw_code (fun _ _ h => h) ?_
    refine cw_seq ?_
    have h9 := gone_more (b := b81) hg0 hi ha hb hc hd
    refine cw_said (L' := star (cellsP [(b81, .cells cur81.toArray 3 (0, 0))]) :: _) (fun w h => sat_star.2 ((show Fnd _ (pts b81 _) _ from aFd).sat h)) ?_
    refine cw_region ?_
    refine ow_y (y_assign rfl) ?_
    refine ow_nil ?_
    refine kw_code (fun _ _ h => h) ?_
    refine cw_said (sat_hl (s := { s with refs := mdel at_ s.refs, g := mvL s.fr s.g at_ 1 2, young := mdel at_ s.young, gone := s.gone ++ [at_], log := bk s.depth (bk s.depth (bk s.depth (bk s.depth s.log (.refs at_ (mget at_ s.refs))) (.back at_)) (.young at_ (mget at_ s.young))) (.gone s.gone) }) (by_ := by_) (gv := .slice (some ⟨b81, 0, none⟩) (s.gone.length + 1) cap81) (gc := [(b81, .cells cur81.toArray 3 (0, 0))]) h9 hok' aSp) (cw_retR rfl (fun _ _ h => h) rfl rfl aSp)
end Go.Proofs.YthlclfdnhnnebaaGreatDoor
end
section
namespace Go.Proofs.YthlclfdnhnnebaaGreatDoor
open Go
theorem F.hb262 : Sl.hasBody Tryz.prog 262 = true := by kernel_rfl
end Go.Proofs.YthlclfdnhnnebaaGreatDoor
end
section
namespace Go.Proofs.YthlclfdnhnnebaaGreatDoor
open Go
end Go.Proofs.YthlclfdnhnnebaaGreatDoor
end
section
namespace Go.Proofs
open Go.Shelf
open Go.RowKit in
open Go.RowKit in
open Go.RowKit in
def Tryz.lays160_ren : Go.Shelf.Ren := ⟨fun | 160 => 203 | 232 => 252 | 231 => 251 | 227 => 253 | 234 => 255 | 233 => 254 | 236 => 257 | 235 => 256 | 228 => 277 | 271 => 280 | 151 => 279 | 197 => 278 | 120 => 287 | 152 => 286 | 260 => 285 | 137 => 288 | 119 => 289 | 224 => 290 | 225 => 291 | 217 => 292 | 266 => 293 | n => n, fun | 9 => 9 | 4 => 4 | 3 => 3 | 5 => 5 | 117 => 316 | 116 => 315 | 0 => 0 | 124 => 319 | 21 => 21 | 105 => 332 | 46 => 92 | 119 => 342 | 139 => 345 | 138 => 344 | n => n, fun | 3 => 2 | 4 => 3 | n => n⟩
theorem Tryz.lays160 : Go.Proofs.Lays.n160 Tryz.prog Tryz.lays160_ren := {
  mixed := by kernel_rfl
  f119 := Tryz.func289.trans (congrArg some (by kernel_rfl))
  f120 := Tryz.func287.trans (congrArg some (by kernel_rfl))
  f137 := Tryz.func288.trans (congrArg some (by kernel_rfl))
  f151 := Tryz.func279.trans (congrArg some (by kernel_rfl))
  f152 := Tryz.func286.trans (congrArg some (by kernel_rfl))
  f160 := Tryz.func203.trans (congrArg some (by kernel_rfl))
  f197 := Tryz.func278.trans (congrArg some (by kernel_rfl))
  f217 := Tryz.func292.trans (congrArg some (by kernel_rfl))
  f224 := Tryz.func290.trans (congrArg some (by kernel_rfl))
  f225 := Tryz.func291.trans (congrArg some (by kernel_rfl))
  f227 := Tryz.func253.trans (congrArg some (by kernel_rfl))
  f228 := Tryz.func277.trans (congrArg some (by kernel_rfl))
  f231 := Tryz.func251.trans (congrArg some (by kernel_rfl))
  f232 := Tryz.func252.trans (congrArg some (by kernel_rfl))
  f233 := Tryz.func254.trans (congrArg some (by kernel_rfl))
  f234 := Tryz.func255.trans (congrArg some (by kernel_rfl))
  f235 := Tryz.func256.trans (congrArg some (by kernel_rfl))
  f236 := Tryz.func257.trans (congrArg some (by kernel_rfl))
  f260 := Tryz.func285.trans (congrArg some (by kernel_rfl))
  f266 := Tryz.func293.trans (congrArg some (by kernel_rfl))
  f271 := Tryz.func280.trans (congrArg some (by kernel_rfl))
  t0 := Tryz.underlying0
  a0 := Tryz.isAgg0
  z0 := Tryz.sizeOf0
  v0 := Tryz.zeroValue0
  t3 := Tryz.underlying3
  a3 := Tryz.isAgg3
  z3 := Tryz.sizeOf3
  v3 := Tryz.zeroValue3
  t4 := Tryz.underlying4
  a4 := Tryz.isAgg4
  z4 := Tryz.sizeOf4
  v4 := Tryz.zeroValue4
  t5 := Tryz.underlying5
  a5 := Tryz.isAgg5
  z5 := Tryz.sizeOf5
  v5 := Tryz.zeroValue5
  t9 := Tryz.underlying9
  a9 := Tryz.isAgg9
  z9 := Tryz.sizeOf9
  v9 := Tryz.zeroValue9
  t21 := Tryz.underlying21
  a21 := Tryz.isAgg21
  z21 := Tryz.sizeOf21
  v21 := Tryz.zeroValue21
  t46 := Tryz.underlying92
  a46 := Tryz.isAgg92
  z46 := Tryz.sizeOf92
  v46 := Tryz.zeroValue92
  t105 := Tryz.underlying332
  a105 := Tryz.isAgg332
  z105 := Tryz.sizeOf332
  v105 := Tryz.zeroValue332
  t116 := Tryz.underlying315
  a116 := Tryz.isAgg315
  z116 := Tryz.sizeOf315
  t117 := Tryz.underlying316
  a117 := Tryz.isAgg316
  z117 := Tryz.sizeOf316
  v117 := Tryz.zeroValue316
  t119 := Tryz.underlying342
  a119 := Tryz.isAgg342
  z119 := Tryz.sizeOf342
  t124 := Tryz.underlying319
  a124 := Tryz.isAgg319
  z124 := Tryz.sizeOf319
  v124 := Tryz.zeroValue319
  t138 := Tryz.underlying344
  a138 := Tryz.isAgg344
  z138 := Tryz.sizeOf344
  v138 := Tryz.zeroValue344
  t139 := Tryz.underlying345
  a139 := Tryz.isAgg345
  z139 := Tryz.sizeOf345
  v139 := Tryz.zeroValue345
  g3 := by kernel_rfl
  g4 := by kernel_rfl }
open Go.RowKit in
theorem Tryz.strings_Trim_one (s : ByteArray) (c : UInt8) (hc : c.toNat < 128) (w : World) (hs : s.size ≤ 9223372036854775807) :
    Calls Tryz.prog 203 #[.string s, .string ⟨#[c]⟩] w fun e w' => e = .returned (.string ⟨(Lib.trimB s.data.toList c).toArray⟩) ∧ (w' = w ∨ w' = w.drew) := Any.strings_Trim_one Tryz.lays160 s c hc w hs
open Go.Sort Go.RowKit in
def Tryz.lays105_ren : Go.Shelf.Ren := ⟨fun | 105 => 12 | 212 => 39 | 99 => 40 | 165 => 41 | 166 => 36 | 170 => 42 | 169 => 38 | 263 => 87 | 264 => 88 | 206 => 89 | 240 => 84 | 241 => 90 | 276 => 134 | 277 => 140 | n => n, fun | 9 => 9 | 3 => 3 | 4 => 4 | 20 => 20 | 0 => 0 | 46 => 92 | 109 => 93 | 5 => 5 | 72 => 84 | 76 => 88 | 51 => 26 | 146 => 159 | 53 => 161 | 148 => 162 | 70 => 82 | 37 => 74 | 75 => 87 | 127 => 158 | 164 => 208 | 80 => 91 | n => n, fun | n => n⟩
theorem Tryz.lays105 : Go.Proofs.Lays.n105 Tryz.prog Tryz.lays105_ren := {
  mixed := by kernel_rfl
  f99 := Tryz.func40.trans (congrArg some (by kernel_rfl))
  f105 := Tryz.func12.trans (congrArg some (by kernel_rfl))
  f165 := Tryz.func41.trans (congrArg some (by kernel_rfl))
  f166 := Tryz.func36.trans (congrArg some (by kernel_rfl))
  f169 := Tryz.func38.trans (congrArg some (by kernel_rfl))
  f170 := Tryz.func42.trans (congrArg some (by kernel_rfl))
  f206 := Tryz.func89.trans (congrArg some (by kernel_rfl))
  f212 := Tryz.func39.trans (congrArg some (by kernel_rfl))
  f240 := Tryz.func84.trans (congrArg some (by kernel_rfl))
  f241 := Tryz.func90.trans (congrArg some (by kernel_rfl))
  f263 := Tryz.func87.trans (congrArg some (by kernel_rfl))
  f264 := Tryz.func88.trans (congrArg some (by kernel_rfl))
  f276 := Tryz.func134.trans (congrArg some (by kernel_rfl))
  f277 := Tryz.func140.trans (congrArg some (by kernel_rfl))
  t0 := Tryz.underlying0
  a0 := Tryz.isAgg0
  z0 := Tryz.sizeOf0
  v0 := Tryz.zeroValue0
  t3 := Tryz.underlying3
  a3 := Tryz.isAgg3
  z3 := Tryz.sizeOf3
  v3 := Tryz.zeroValue3
  t4 := Tryz.underlying4
  a4 := Tryz.isAgg4
  z4 := Tryz.sizeOf4
  v4 := Tryz.zeroValue4
  t5 := Tryz.underlying5
  a5 := Tryz.isAgg5
  z5 := Tryz.sizeOf5
  v5 := Tryz.zeroValue5
  t9 := Tryz.underlying9
  a9 := Tryz.isAgg9
  z9 := Tryz.sizeOf9
  v9 := Tryz.zeroValue9
  t20 := Tryz.underlying20
  a20 := Tryz.isAgg20
  z20 := Tryz.sizeOf20
  v20 := Tryz.zeroValue20
  t37 := Tryz.underlying74
  a37 := Tryz.isAgg74
  z37 := Tryz.sizeOf74
  v37 := Tryz.zeroValue74
  t46 := Tryz.underlying92
  a46 := Tryz.isAgg92
  z46 := Tryz.sizeOf92
  v46 := Tryz.zeroValue92
  t51 := Tryz.underlying26
  a51 := Tryz.isAgg26
  z51 := Tryz.sizeOf26
  v51 := Tryz.zeroValue26
  t53 := Tryz.underlying161
  a53 := Tryz.isAgg161
  z53 := Tryz.sizeOf161
  v53 := Tryz.zeroValue161
  t70 := Tryz.underlying82
  a70 := Tryz.isAgg82
  z70 := Tryz.sizeOf82
  v70 := Tryz.zeroValue82
  t72 := Tryz.underlying84
  a72 := Tryz.isAgg84
  z72 := Tryz.sizeOf84
  v72 := Tryz.zeroValue84
  t75 := Tryz.underlying87
  a75 := Tryz.isAgg87
  z75 := Tryz.sizeOf87
  v75 := Tryz.zeroValue87
  t76 := Tryz.underlying88
  a76 := Tryz.isAgg88
  z76 := Tryz.sizeOf88
  v76 := Tryz.zeroValue88
  t109 := Tryz.underlying93
  a109 := Tryz.isAgg93
  z109 := Tryz.sizeOf93
  v109 := Tryz.zeroValue93
  t127 := Tryz.underlying158
  a127 := Tryz.isAgg158
  z127 := Tryz.sizeOf158
  v127 := Tryz.zeroValue158
  t146 := Tryz.underlying159
  a146 := Tryz.isAgg159
  z146 := Tryz.sizeOf159
  v146 := Tryz.zeroValue159
  t148 := Tryz.underlying162
  a148 := Tryz.isAgg162
  z148 := Tryz.sizeOf162
  v148 := Tryz.zeroValue162
  t164 := Tryz.underlying208
  a164 := Tryz.isAgg208
  z164 := Tryz.sizeOf208
  v164 := Tryz.zeroValue208 }
theorem Tryz.Builder_Extra_105 : Builder.Extra Tryz.prog Tryz.lays105_ren := {
  sizeBuilder := by kernel_rfl
  liesBuilder := by kernel_rfl
  t5 := Tryz.underlying5
  a5 := Tryz.isAgg5
  z5 := Tryz.sizeOf5
  v5 := Tryz.zeroValue5
  infoByte := by kernel_rfl
  cellsByte := by kernel_rfl
  sizeByte := by kernel_rfl
  neB5 := by decide }
open Go.RowKit Go.Lib in
theorem Tryz.strings_Repeat (s : ByteArray) (c : Nat) (w : World) (hc : c ≤ 9223372036854775807) (hlen : s.size * c ≤ 140737488355328) :
    Calls Tryz.prog 12 #[.string s, .int .i64 c] w fun e w' => e = .returned (.string ⟨(Lib.repeatL s.data.toList c).toArray⟩) ∧ Below w.heap.size w w' := Any.strings_Repeat Tryz.lays105 Tryz.Builder_Extra_105 s c w hc hlen
end Go.Proofs
end
section
set_option maxRecDepth 4000
set_option maxHeartbeats 4000000
namespace Go.Proofs.YthlclfdnhnnebaaGreatDoor
open Go.Sl Go.Sb
theorem repeatL_one (c : UInt8) (n : Nat) : Lib.repeatL [c] n = List.replicate n c := by
  induction n with
  | zero => rfl
  | succ n ih => rw [Lib.repeatL, ih]; rfl
theorem repeatL_eq (l : B) (n : Nat) : Lib.repeatL l n = (List.replicate n l).flatten := by
  induction n with
  | zero => rfl
  | succ n ih => rw [Lib.repeatL, ih, List.replicate_succ, List.flatten_cons]
theorem repeat0 (n : Nat) (hn : n ≤ 1000000) : Does Tryz.prog 12 #[.string ⟨#[0]⟩, .int .i64 n] [] (Gives (strV (zeros n)) []) := by
  refine does_below fun w => ?_
  have h := Tryz.strings_Repeat ⟨#[0]⟩ n w (by omega) (by show 1 * n ≤ _; omega)
  have e : (⟨(Lib.repeatL (⟨#[0]⟩ : ByteArray).data.toList n).toArray⟩ : ByteArray) = bs (zeros n) := by
    show (⟨(Lib.repeatL [0] n).toArray⟩ : ByteArray) = _
    rw [repeatL_one]; rfl
  rw [e] at h
  exact h
theorem repeatS (l : B) (n : Nat) (hl : l.length * n ≤ 1000000) (hn : n ≤ 1000000) : Does Tryz.prog 12 #[strV l, .int .i64 n] [] (Gives (strV ((List.replicate n l).flatten)) []) := by
  refine does_below fun w => ?_
  have h := Tryz.strings_Repeat (bs l) n w (by omega) (by rw [bs_size]; omega)
  rw [bs_list, repeatL_eq] at h
  exact h
theorem otextB (b : Nat) (v : Value) (l s : B) (hl : l.length ≤ 1000000) (hs : s.length ≤ 1000000) (h1 : v.oneCell' = true) :
    Does Tryz.prog 109 #[ptr b, strV s] (pout b v l) (GivesE (fun v' : Value => v'.oneCell' = true) (fun _ => ptr b) (fun v' => pout b v' (l ++ s))) := by
  have h := otext_spec b v l (bs s) hl (by rw [bs_size]; exact hs) h1
  rw [bs_list] at h
  exact h
theorem ofill_ok (b : Nat) (v : Value) (l : B) (n : Nat) (hl : l.length ≤ n) (hn : n ≤ 1000000) (h1 : v.oneCell' = true) :
    Does Tryz.prog 210 #[ptr b, .int .i64 n] (pout b v l) (GivesE (fun v' : Value => v'.oneCell' = true) (fun _ => ptr b) (fun v' => pout b v' (padTo n l))) := by
  refine does_enter Tryz.func210 rfl Tryz.ntmps210 rfl (fun R w0 => ?_)
  simp only [envOf, List.cons_append, List.nil_append]
  refine cw_seq ?_
  refine cw_region ?_
  refine ow_y (y_assign rfl) ?_
  refine ow_nil ?_
  refine kw_code (fun _ _ h => h) ?_
  refine cw_seq ?_
  refine cw_seq ?_
  refine cw_region ?_
  refine ow_y (y_move rfl) ?_
  refine ow_y (y_nil rfl) ?_
  refine ow_y (y_fld F.fld186_0 rfl) ?_
  refine ow_y (y_load F.sc74 rfl (by rfl)) ?_
  refine ow_y (y_len_row F.sl74 rfl aFd) ?_
  refine ow_y (y_move rfl) ?_
  refine ow_y (y_gtr rfl rfl) ?_
  refine ow_nil ?_
  refine kw_code (fun _ _ h => h) ?_
  refine cw_false rfl (by first | rfl | exact decide_eq_false (by omega)) ?_
  refine cw_skip ?_
  refine kw_code (fun _ _ h => h) ?_
  refine cw_seq ?_
  refine cw_region ?_
  refine ow_y (y_move rfl) ?_
  refine ow_y (y_move rfl) ?_
  refine ow_y (y_move rfl) ?_
  refine ow_y (y_nil rfl) ?_
  refine ow_y (y_fld F.fld186_0 rfl) ?_
  refine ow_y (y_load F.sc74 rfl (by rfl)) ?_
  refine ow_y (y_len_row F.sl74 rfl aFd) ?_
  refine ow_y (y_subI rfl rfl (by omega)) ?_
  rw [show ((n : Nat) : Int) - ((l.length : Nat) : Int) = ((n - l.length : Nat) : Int) by omega]
  refine ow_gives rfl F.hb12 rfl (repeat0 (n - l.length) (by omega)) aSp ?_
  try simp only [List.cons_append, List.nil_append]
  refine ow_givesE rfl F.hb109 rfl (otextB b v l (zeros (n - l.length)) (by omega) (by simp [zeros]; omega) h1) aSp ?_
  rintro v2 hv2
  try simp only [List.cons_append, List.nil_append]
  refine ow_y (y_assign rfl) ?_
  refine ow_nil ?_
  refine kw_code (fun _ _ h => h) ?_
  refine cw_retE v2 hv2 (fun _ _ h => h) rfl rfl aSp
theorem ofill_no (b : Nat) (v : Value) (l : B) (n : Nat) (hl : n < l.length) (h1 : v.oneCell' = true) :
    Does Tryz.prog 210 #[ptr b, .int .i64 n] (pout b v l) (fun en L => en = .panicked (faultT fT 3) ∧ L = pout b v l) := by
  refine does_enter Tryz.func210 rfl Tryz.ntmps210 rfl (fun R w0 => ?_)
  simp only [envOf, List.cons_append, List.nil_append]
  refine cw_seq ?_
  refine cw_region ?_
  refine ow_y (y_assign rfl) ?_
  refine ow_nil ?_
  refine kw_code (fun _ _ h => h) ?_
  refine cw_seq ?_
  refine cw_seq ?_
  refine cw_region ?_
  refine ow_y (y_move rfl) ?_
  refine ow_y (y_nil rfl) ?_
  refine ow_y (y_fld F.fld186_0 rfl) ?_
  refine ow_y (y_load F.sc74 rfl (by rfl)) ?_
  refine ow_y (y_len_row F.sl74 rfl aFd) ?_
  refine ow_y (y_move rfl) ?_
  refine ow_y (y_gtr rfl rfl) ?_
  refine ow_nil ?_
  refine kw_code (fun _ _ h => h) ?_
  refine cw_true rfl (by first | rfl | exact decide_eq_true (by omega)) ?_
  refine cw_region ?_
  refine ow_fails rfl F.hb29 rfl (fail_spec 3) aSp ?_
  simp only [List.cons_append, List.nil_append]
  repeat (first | with_reducible refine kw_inBlock_panic ?_ | with_reducible refine kw_then_panic ?_)
  refine kw_panic (fun _ _ h => h) (Split.back aSp) ⟨rfl, rfl⟩
end Go.Proofs.YthlclfdnhnnebaaGreatDoor
end
