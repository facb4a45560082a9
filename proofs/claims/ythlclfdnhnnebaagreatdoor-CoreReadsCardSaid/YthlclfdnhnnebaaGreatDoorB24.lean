/- Part of the proof; no statement of its own: A15, SlBld, Shelf2, A16, A17, A18. -/
import Derived.Test.YthlclfdnhnnebaaGreatDoorB08
import Derived.Test.YthlclfdnhnnebaaGreatDoorB07
import Derived.Test.YthlclfdnhnnebaaGreatDoorB23
import Derived.Test.YthlclfdnhnnebaaGreatDoorB06
import Derived.Lib.UnsafeStr
import Derived.Test.YthlclfdnhnnebaaGreatDoorB15
import Derived.Shelf.Strings.Builder1
import Derived.Shelf.Strings.Builder2
import Derived.Test.YthlclfdnhnnebaaGreatDoorB22
set_option linter.all false
section
set_option maxRecDepth 4000
set_option maxHeartbeats 4000000
namespace Go.Proofs.YthlclfdnhnnebaaGreatDoor
open Go.Sl Go.Sb
theorem hget_ok {at_ : Int} {s t : St} {b : B} (h : hget at_ s = (.ok b, t)) : t = s ∧ dread s.d at_ = .ok b := by
  unfold hget at h; split at h
  · cases h
  · simp only [Prod.mk.injEq] at h; exact ⟨h.2.symm, h.1⟩
theorem dread_len {d : Dk} (hd : DkOK d) {at_ : Int} {b : B} (h : dread d at_ = .ok b) : b.length ≤ 64 := by
  unfold dread at h
  split at h
  · cases h
  · split at h
    · cases h
    · rename_i h1
      simp only [Out.ok.injEq] at h
      have hlt : at_.toNat < d.l.length := by omega
      rw [List.getD_eq_getElem?_getD, List.getElem?_eq_getElem hlt] at h
      have := (hd.1 _ (List.getElem_mem hlt)).2
      rw [← h]; simp only [Option.getD_some]; omega
theorem hdParse_lens {b : B} {x : Hd} (h : hdParse b = .ok x) : HdLen x := by
  unfold hdParse at h
  cases ho : openB b with
  | err e => rw [ho] at h; cases h
  | big => rw [ho] at h; cases h
  | ok t =>
    rw [ho] at h
    simp only at h
    have ht : t = b.take 60 ∧ b.length = 64 := by
      unfold openB at ho
      split at ho
      · cases ho
      · split at ho
        · cases ho
        · split at ho
          · cases ho
          · split at ho
            · cases ho
            · rename_i h4; cases ho; exact ⟨rfl, by omega⟩
    split at h
    · cases h
    · split at h
      · cases h
      · cases h
        refine ⟨by simp [nums_len], nums_len 4 4 _, fun c hc => ?_, by simp; rw [ht.1]; simp; omega⟩
        obtain ⟨i, hi, rfl⟩ := List.getElem_of_mem hc
        rw [nums_get]
        exact be_len4 _
theorem hdL_len {x : Hd} (h : HdLen x) : (hdL x).length = 40 := by unfold hdL; simp [h.n, h.m, h.sum]
theorem hdL_one (x : Hd) : ∀ v ∈ (hdL x).toArray.toList, v.oneCell' = true := by
  intro v hv
  simp only [hdL, List.mem_append, List.mem_map] at hv
  rcases hv with ⟨_, _, rfl⟩ | ⟨_, _, rfl⟩ | ⟨_, _, rfl⟩ <;> rfl
theorem xhead_spec (W : World) (a : Ad) (s : St) (at_ : Int) : Does Tryz.prog 135 #[ptr a.st, .int .i64 at_] (RS W a s) (Ran fT (RS W a) hdV (xhead at_ s)) := by
  refine does_enter Tryz.func135 rfl Tryz.ntmps135 rfl (fun R w0 => ?_)
  simp only [envOf, List.cons_append, List.nil_append]
  refine cw_fact (p := DkOK s.d) aFd fun hdk => ?_
  refine cw_seq ?_
  refine cw_region ?_
  refine (ow_alloc F.z213 (fun b4 => ?_))
  refine ow_nil ?_
  refine kw_code (fun _ _ h => h) ?_
  refine cw_seq ?_
  refine cw_region ?_
  refine ow_y (y_move rfl) ?_
  refine ow_y (y_nil rfl) ?_
  refine ow_y (y_fld F.fld195_0 rfl) ?_
  refine ow_y (y_load F.sc62 rfl (by rfl)) ?_
  refine ow_y (y_move rfl) ?_
  refine ow_ran rfl F.hb136 rfl (hget_spec W a s at_) aSp (fun b t ho => ?_) (fun e t ho => by (repeat (first | with_reducible refine kw_inBlock_panic ?_ | with_reducible refine kw_then_panic ?_)); exact kw_errR ((by unfold xhead; exact andThen_err ho)) (fun _ _ h => h) aSp)
  try simp only [List.cons_append, List.nil_append]
  obtain ⟨rfl, hrd⟩ := hget_ok ho
  have hbl := dread_len hdk hrd
  have ho1 := ho
  refine ow_ran rfl F.hb180 rfl (hdParse_spec b (by omega)) aSp (fun x u ho => ?_) (fun e t ho => by (repeat (first | with_reducible refine kw_inBlock_panic ?_ | with_reducible refine kw_then_panic ?_)); exact kw_errR ((by unfold xhead; rw [andThen_ok ho1]; unfold lift; rw [show hdParse b = .err e from congrArg Prod.fst ho])) (fun _ _ h => h) aSp)
  try simp only [List.cons_append, List.nil_append]
  have hx : hdParse b = .ok x := congrArg Prod.fst ho
  have hln := hdParse_lens hx
  have hsz : (hdL x).toArray.size = 40 := by rw [List.size_toArray, hdL_len hln]
  have hr : xhead at_ t = (.ok x, t) := by unfold xhead; rw [andThen_ok ho1]; unfold lift; rw [hx]
  refine ow_storeAgg F.sz213 rfl rfl hsz (hdL_one x) (by rw [hsz]; simp [Value.cells]) (splice_all (by rw [hsz]; simp [Value.cells])) ?_
  refine ow_nil ?_
  refine kw_code (fun _ _ h => h) ?_
  exact cw_retRC hr (fun _ _ h => h) (RV.agg F.ag213 rfl (by rw [hsz]; omega) (extract_all hsz) RV.nil) rfl aSp
theorem xhead_len {at_ : Int} {s t : St} {x : Hd} (h : xhead at_ s = (.ok x, t)) : t = s ∧ HdLen x := by
  unfold xhead at h
  cases hg : hget at_ s with
  | mk o u =>
    cases o with
    | ok b =>
      rw [andThen_ok hg] at h
      unfold lift at h
      simp only [Prod.mk.injEq] at h
      exact ⟨h.2.symm.trans (hget_ok hg).1, hdParse_lens h.1⟩
    | err e => rw [andThen_err hg] at h; cases h
    | big => unfold andThen at h; rw [hg] at h; cases h
theorem xmore_spec (W : World) (a : Ad) (s : St) (at_ : Int) (hnb : (xmore at_ s).1 ≠ .big) : Does Tryz.prog 197 #[ptr a.st, .int .i64 at_] (RS W a s) (Ran fT (RS W a) unitV (xmore at_ s)) := by
  by_cases h0 : at_ = 0
  · subst h0
    have hr : xmore 0 s = (.ok (), s) := by unfold xmore; rw [if_pos rfl]; rfl
    rw [hr]
    refine does_enter Tryz.func197 rfl Tryz.ntmps197 rfl (fun R w0 => ?_)
    simp only [envOf, List.cons_append, List.nil_append]
    refine cw_seq ?_
    refine cw_region ?_
    refine ow_y (y_move rfl) ?_
    refine ow_y (y_neq rfl rfl) ?_
    refine ow_nil ?_
    refine kw_code (fun _ _ h => h) ?_
    refine cw_false rfl rfl ?_
    refine cw_skip ?_
    exact kw_finR rfl rfl rfl aSp
  · have hr : xmore at_ s = hmore at_ s := by unfold xmore; rw [if_neg h0]
    rw [hr] at hnb ⊢
    refine does_enter Tryz.func197 rfl Tryz.ntmps197 rfl (fun R w0 => ?_)
    simp only [envOf, List.cons_append, List.nil_append]
    refine cw_seq ?_
    refine cw_region ?_
    refine ow_y (y_move rfl) ?_
    refine ow_y (y_neq rfl rfl) ?_
    refine ow_nil ?_
    refine kw_code (fun _ _ h => h) ?_
    refine cw_true rfl (by simpa using h0) ?_
    refine cw_region ?_
    refine ow_y (y_move rfl) ?_
    refine ow_y (y_nil rfl) ?_
    refine ow_y (y_fld F.fld195_0 rfl) ?_
    refine ow_y (y_load F.sc62 rfl (by rfl)) ?_
    refine ow_y (y_move rfl) ?_
    refine ow_ran rfl F.hb175 rfl (hmore_spec W a s at_ hnb) aSp (fun u t ho => ?_) (fun e t ho => by (repeat (first | with_reducible refine kw_inBlock_panic ?_ | with_reducible refine kw_then_panic ?_)); exact kw_errR (ho) (fun _ _ h => h) aSp)
    try simp only [List.cons_append, List.nil_append]
    refine ow_nil ?_
    exact kw_finR ho rfl rfl aSp
theorem xsum_spec (W : World) (a : Ad) (s : St) (at_ : Int) : Does Tryz.prog 250 #[ptr a.st, .int .i64 at_] (RS W a s) (Ran fT (RS W a) sumV (xsum at_ s)) := by
  by_cases h0 : at_ = 0
  · subst h0
    have hr : xsum 0 s = (.ok (zeros 32), s) := by unfold xsum; rw [if_pos rfl]; rfl
    rw [hr]
    refine does_enter Tryz.func250 rfl Tryz.ntmps250 rfl (fun R w0 => ?_)
    simp only [envOf, List.cons_append, List.nil_append]
    refine cw_seq ?_
    refine cw_region ?_
    refine (ow_alloc F.z175 (fun b4 => ?_))
    refine ow_nil ?_
    refine kw_code (fun _ _ h => h) ?_
    refine cw_seq ?_
    refine cw_seq ?_
    refine cw_region ?_
    refine ow_y (y_move rfl) ?_
    refine ow_y (y_eql rfl rfl) ?_
    refine ow_nil ?_
    refine kw_code (fun _ _ h => h) ?_
    refine cw_true rfl rfl ?_
    refine cw_seq ?_
    refine cw_region ?_
    refine ow_y (y_buildArr (cs := List.replicate 32 (Value.int .u8 0)) F.ar175 F.z175 rfl (by rfl)) ?_
    refine ow_storeAgg F.sz175 rfl rfl (by rfl) (by simp [Value.oneCell']) (by simp [Value.cells]) (splice_all (by rfl)) ?_
    refine ow_nil ?_
    refine kw_code (fun _ _ h => h) ?_
    exact cw_retRC rfl (fun _ _ h => h) (RV.agg F.ag175 rfl (by simp) (extract_all (by rfl)) RV.nil) rfl aSp
  · have e0 : xsum at_ s = andThen (xhead at_) (fun x => ret x.sum) s := by unfold xsum; rw [if_neg h0]
    refine does_enter Tryz.func250 rfl Tryz.ntmps250 rfl (fun R w0 => ?_)
    simp only [envOf, List.cons_append, List.nil_append]
    refine cw_seq ?_
    refine cw_region ?_
    refine (ow_alloc F.z175 (fun b4 => ?_))
    refine ow_nil ?_
    refine kw_code (fun _ _ h => h) ?_
    refine cw_seq ?_
    refine cw_seq ?_
    refine cw_region ?_
    refine ow_y (y_move rfl) ?_
    refine ow_y (y_eql rfl rfl) ?_
    refine ow_nil ?_
    refine kw_code (fun _ _ h => h) ?_
    refine cw_false rfl (by simpa using h0) ?_
    refine cw_skip ?_
    refine kw_code (fun _ _ h => h) ?_
    refine cw_seq ?_
    refine cw_region ?_
    refine ow_y (y_move rfl) ?_
    refine ow_y (y_move rfl) ?_
    refine ow_ran rfl F.hb135 rfl (xhead_spec W a s at_) aSp (fun x t ho => ?_) (fun e t ho => by (repeat (first | with_reducible refine kw_inBlock_panic ?_ | with_reducible refine kw_then_panic ?_)); exact kw_errR ((by rw [e0]; exact andThen_err ho)) (fun _ _ h => h) aSp)
    try simp only [List.cons_append, List.nil_append]
    obtain ⟨hts, hln⟩ := xhead_len ho
    have hr : xsum at_ s = (.ok x.sum, t) := by rw [e0, andThen_ok ho]; rfl
    have hs2 : (x.sum.map byteV).toArray.size = 32 := by rw [List.size_toArray, List.length_map, hln.sum]
    refine ow_y (y_fieldAgg (v := (x.sum.map byteV).toArray) F.fa213_2 rfl (by rw [show hdL x = (x.at_.map intV ++ (x.sums.map fun n : Nat => Value.int .u32 n)) ++ (x.sum.map byteV ++ []) by simp [hdL]]; exact extract_app (by rw [List.length_append, List.length_map, List.length_map, hln.n, hln.m]) (by rw [List.length_map, hln.sum]))) ?_
    refine ow_storeAgg F.sz175 rfl rfl hs2 (fun x hx => by simp at hx; obtain ⟨_, _, rfl⟩ := hx; rfl) (by rw [hs2]; simp [Value.cells]) (splice_all (by rw [hs2]; simp [Value.cells])) ?_
    refine ow_nil ?_
    refine kw_code (fun _ _ h => h) ?_
    exact cw_retRC hr (fun _ _ h => h) (RV.agg F.ag175 rfl (by rw [hs2]; omega) (extract_all hs2) RV.nil) rfl aSp
end Go.Proofs.YthlclfdnhnnebaaGreatDoor
end
section
namespace Go.Sl
open Go.BigFrame
theorem freeze_put {w : World} {g n : Nat} {cs : Array Value} {e : TypeId} (h : w.heap[g]? = some (.cells cs e (0, 0))) (hn : n ≠ 0) : w.freeze ⟨g, 0, none⟩ n = Sl.put w g (.cells cs e (0, n)) := by
  have hlt := heap_lt h
  unfold World.freeze Sl.put
  rw [if_neg hn]
  congr 1
  apply Array.ext'
  apply List.ext_getElem?
  intro i
  simp only [Array.getElem?_toList, Array.getElem?_modify, Array.getElem?_setIfInBounds]
  by_cases e0 : g = i
  · subst e0
    have hg : w.heap[g]'hlt = .cells cs e (0, 0) := by rw [Array.getElem?_eq_getElem hlt] at h; exact Option.some.inj h
    simp [h, hlt, hg]
  · simp [e0]
theorem setCell_put {w : World} {b : Nat} {cs : Array Value} {e : TypeId} {fr : Nat × Nat} {v : Value} (h : w.heap[b]? = some (.cells cs e fr)) : w.setCell ⟨b, 0, none⟩ v = Sl.put w b (.cells (cs.setIfInBounds 0 v) e fr) := by
  have hlt := heap_lt h
  unfold World.setCell Sl.put
  congr 1
  apply Array.ext'
  apply List.ext_getElem?
  intro i
  simp only [Array.getElem?_toList, Array.getElem?_modify, Array.getElem?_setIfInBounds]
  by_cases e0 : b = i
  · subst e0
    have hg : w.heap[b]'hlt = .cells cs e fr := by rw [Array.getElem?_eq_getElem hlt] at h; exact Option.some.inj h
    simp [h, hlt, hg]
  · simp [e0]
section
variable {c : Cx} {ops : Array Oper} {Q : Exit → Act → World → Prop} {rest : List Oper} {env : List (Nat × Value)} {L M : List Asrt}
  {d : Tmp} {ty : TypeId} {pos : String} {af : Array Edge} {g : Option (Nat × Bool)} {dd : Option Tmp}
theorem y_sliceData {t : TypeId} {x : Operand} {a : Addr} {n cp : Nat} (hx : evo env x = some (.slice (some a) n cp)) (hc : cp ≠ 0) :
    Yields c ⟨dd, .call { callee := .builtin .unsafeSliceData, args := #[x], argTypes := #[t] }, ty, pos, af, g⟩ env L (.pointer (some a)) := by
  intro a' w h
  rw [execOp_builtin, builtin_unsafeSliceData]
  have e1 : (#[x] : Array Operand).map a'.eval = #[.slice (some a) n cp] := by simp [h.eval hx]
  rw [e1, Sem.run_bind, Lib.run_unsafeSliceData_row (P := c.P) w #[t] ty a n cp hc]; rfl
theorem y_sliceData0 {t : TypeId} {x : Operand} {n cp : Nat} (hx : evo env x = some (.slice none n cp)) :
    Yields c ⟨dd, .call { callee := .builtin .unsafeSliceData, args := #[x], argTypes := #[t] }, ty, pos, af, g⟩ env L (.pointer none) := by
  intro a' w h
  rw [execOp_builtin, builtin_unsafeSliceData]
  have e1 : (#[x] : Array Operand).map a'.eval = #[.slice none n cp] := by simp [h.eval hx]
  rw [e1, Sem.run_bind, Lib.run_unsafeSliceData_nil (P := c.P) w #[t] ty n cp]; rfl
theorem y_unsafeString0 {pt it : TypeId} {x y : Operand} {p : Option Addr} (hx : evo env x = some (.pointer p)) (hy : evo env y = some (.int .i64 0)) :
    Yields c ⟨dd, .call { callee := .builtin .unsafeString, args := #[x, y], argTypes := #[pt, it] }, ty, pos, af, g⟩ env L (.string ByteArray.empty) := by
  intro a' w h
  rw [execOp_builtin, builtin_unsafeString]
  have := Lib.run_unsafeString_none (P := c.P) w pt it ty p
  simp [h.eval hx, h.eval hy, this]
theorem ow_unsafeString {pt it e : TypeId} {x y : Operand} {gb cap n : Nat} {l : List UInt8} (hp : c.P.underlying pt = some (.pointer e)) (hc : c.P.cellsOf e = 1) (hx : evo env x = some (.pointer (some ⟨gb, 0, none⟩))) (hy : evo env y = some (.int .i64 n)) (hn : n = l.length)
    (hL : Fnd L (rowA e 1 (.slice (some ⟨gb, 0, none⟩) n cap) n (l.map byteV)) M) (h0 : l ≠ []) (hl : l.length ≤ 1000000000)
    (h : OW c ops Q rest ((d, .string ⟨l.toArray⟩) :: env) M) (hd : Nat.blt d c.n = true := by rfl) :
    OW c ops Q (⟨some d, .call { callee := .builtin .unsafeString, args := #[x, y], argTypes := #[pt, it] }, ty, pos, af, none⟩ :: rest) env L := by
  intro a w hh
  subst hn
  have hsat := hL.sat hh.sat
  obtain ⟨_, hcase⟩ := rowA_cases hsat
  rcases hcase with ⟨h1, _⟩ | ⟨b', cap', cur, h1, g1, g2, g3, g4, hs⟩
  · cases h1
  simp only [Value.slice.injEq, Option.some.injEq, Addr.mk.injEq] at h1
  obtain ⟨⟨rfl, _, _⟩, _, rfl⟩ := h1
  have hb := hs.pts
  have hn0 : l.length ≠ 0 := by simpa using h0
  have hr := Lib.run_unsafeString_row (P := c.P) w pt it ty e hp hc gb cur.length (by simp [World.shape?, hb]) l h0 (by omega) (by omega) (fun j u hj => by
    have hj1 : j < l.length := (List.getElem?_eq_some_iff.1 hj).1
    have h2 : (cur.take (l.length * 1))[j]? = (l.map byteV)[j]? := by rw [g4]
    rw [List.getElem?_take_of_lt (by omega), List.getElem?_map, hj] at h2
    simp [World.cell?, addr_add, hb, h2, byteV])
  rw [freeze_put hb hn0] at hr
  refine wpList_plain rfl fun K hK => ?_
  unfold Oper.wp
  rw [execOp_builtin, builtin_unsafeString]
  have e1 : (#[x, y] : Array Operand).map a.eval = #[.pointer (some ⟨gb, 0, none⟩), .int .i64 l.length] := by simp [hh.eval hx, hh.eval hy]
  rw [e1]
  simp only [Sem.run_bind, hr, Result.andThen_ok, Sem.run_pure, Oper.upon]
  exact hK _ _ (h _ _ ((⟨hh.size, hh.slots, hh.defers, (hs.put (o' := .cells cur.toArray e (0, l.length))).tail, hh.like.put _ _⟩ : Holds c env M a _).put d _ hd))
end
end Go.Sl
end
section
namespace Go.Proofs
open Go.RowKit
def Tryz.lays166_ren : Go.Shelf.Ren := ⟨fun | 166 => 36 | 240 => 84 | 276 => 134 | n => n, fun | 0 => 0 | 3 => 3 | 4 => 4 | 9 => 9 | 20 => 20 | 37 => 74 | 70 => 82 | 72 => 84 | 75 => 87 | 80 => 91 | 164 => 208 | 5 => 5 | n => n, fun | n => n⟩
theorem Tryz.lays166 : Go.Proofs.Lays.n166 Tryz.prog Tryz.lays166_ren := {
  mixed := by kernel_rfl
  f166 := Tryz.func36.trans (congrArg some (by kernel_rfl))
  f240 := Tryz.func84.trans (congrArg some (by kernel_rfl))
  f276 := Tryz.func134.trans (congrArg some (by kernel_rfl))
  t0 := Tryz.underlying0
  a0 := Tryz.isAgg0
  z0 := Tryz.sizeOf0
  v0 := Tryz.zeroValue0
  t3 := Tryz.underlying3
  a3 := Tryz.isAgg3
  z3 := Tryz.sizeOf3
  v3 := Tryz.zeroValue3
  t4 := Tryz.underlying4
  a4 := Tryz.isAgg4
  z4 := Tryz.sizeOf4
  v4 := Tryz.zeroValue4
  t9 := Tryz.underlying9
  a9 := Tryz.isAgg9
  z9 := Tryz.sizeOf9
  v9 := Tryz.zeroValue9
  t20 := Tryz.underlying20
  a20 := Tryz.isAgg20
  z20 := Tryz.sizeOf20
  v20 := Tryz.zeroValue20
  t37 := Tryz.underlying74
  a37 := Tryz.isAgg74
  z37 := Tryz.sizeOf74
  v37 := Tryz.zeroValue74
  t70 := Tryz.underlying82
  a70 := Tryz.isAgg82
  z70 := Tryz.sizeOf82
  v70 := Tryz.zeroValue82
  t72 := Tryz.underlying84
  a72 := Tryz.isAgg84
  z72 := Tryz.sizeOf84
  v72 := Tryz.zeroValue84
  t75 := Tryz.underlying87
  a75 := Tryz.isAgg87
  z75 := Tryz.sizeOf87
  v75 := Tryz.zeroValue87
  t164 := Tryz.underlying208
  a164 := Tryz.isAgg208
  z164 := Tryz.sizeOf208
  v164 := Tryz.zeroValue208 }
theorem Tryz.Builder_Extra_166 : Builder.Extra Tryz.prog Tryz.lays166_ren := {
  sizeBuilder := by kernel_rfl
  liesBuilder := by kernel_rfl
  t5 := Tryz.underlying5
  a5 := Tryz.isAgg5
  z5 := Tryz.sizeOf5
  v5 := Tryz.zeroValue5
  infoByte := by kernel_rfl
  cellsByte := by kernel_rfl
  sizeByte := by kernel_rfl
  neB5 := by decide }
end Go.Proofs
end
section
set_option maxRecDepth 4000
set_option maxHeartbeats 4000000
namespace Go.Proofs.YthlclfdnhnnebaaGreatDoor
open Go.Sl Go.Sb Go.RowKit
theorem lays240 : Go.Proofs.Lays.n240 Tryz.prog Tryz.lays166_ren := { Tryz.lays166 with }
theorem x72 : Builder.X72 Tryz.prog Tryz.lays166_ren := { Tryz.Builder_Extra_166 with }
abbrev bldP (b : Nat) (p v : Value) (l : B) : List Asrt := [pts b (.cells #[p, v] 84 (0, 0)), rowA 5 1 v l.length (l.map byteV)]
theorem copyCheck_spec (b : Nat) (p v : Value) (hp : p = .pointer none ∨ p = ptr b) : Does Tryz.prog 84 #[ptr b] [pts b (.cells #[p, v] 84 (0, 0))] (Gives (.tuple #[]) [pts b (.cells #[ptr b, v] 84 (0, 0))]) := by
  intro w F hs
  have hb := Sat.pts hs
  rcases hp with rfl | rfl
  · refine (Any.Builder_copyCheck_fresh lays240 x72 b w (by simp [World.cell?, hb]) (by simp [World.shape?, hb]; rfl) (by simp [World.frozen?, hb])).mono ?_
    rintro e w' ⟨rfl, rfl⟩
    refine ⟨_, ⟨rfl, rfl⟩, ?_, ?_⟩
    · rw [setCell_put hb]; exact hs.put
    · rw [setCell_put hb]; exact (Like.refl w).put _ _
  · refine (Any.Builder_copyCheck_used lays240 x72 b w (by simp [World.cell?, hb])).mono ?_
    rintro e w' ⟨rfl, rfl⟩
    exact ⟨_, ⟨rfl, rfl⟩, hs, Like.refl _⟩
theorem write_spec (b : Nat) (p v : Value) (hp : p = .pointer none ∨ p = ptr b) (l s : B) (hl : l.length ≤ 1000000) (hs : s.length ≤ 1000000) :
    Does Tryz.prog 36 #[ptr b, strV s] (bldP b p v l) (GivesE (fun v' : Value => v'.oneCell' = true) (fun _ => .tuple #[.int .i64 s.length, .nilIface]) (fun v' => bldP b (ptr b) v' (l ++ s))) := by
  have hbl : byteCells (bs s) = s.map byteV := by simp [byteCells, byteV]
  refine does_enter Tryz.func36 rfl Tryz.ntmps36 rfl (fun R w0 => ?_)
  simp only [envOf, List.cons_append, List.nil_append]
  refine cw_seq ?_
  refine cw_region ?_
  refine ow_y (y_assign rfl) ?_
  refine ow_y (y_assign rfl) ?_
  refine ow_nil ?_
  refine kw_code (fun _ _ h => h) ?_
  refine cw_seq ?_
  refine cw_region ?_
  refine ow_y (y_move rfl) ?_
  refine ow_gives rfl F.hb84 rfl (copyCheck_spec b p v hp) aSp ?_
  try simp only [List.cons_append, List.nil_append]
  refine ow_nil ?_
  refine kw_code (fun _ _ h => h) ?_
  refine cw_seq ?_
  refine cw_region ?_
  refine ow_y (y_move rfl) ?_
  refine ow_y (y_move rfl) ?_
  refine ow_y (y_nil rfl) ?_
  refine ow_y (y_fld F.fld84_1 rfl) ?_
  refine ow_y (y_load F.sc74 rfl (by rfl)) ?_
  refine ow_y (y_move rfl) ?_
  skip
  refine (ow_append F.sl74 F.tb5 F.z5 rfl rfl rfl aFd (src_str F.st9) (by rw [bs_size]; simp only [maxLen]; omega) (by rw [bs_size]; omega) (fun v14 hv14 => ?_))
  rw [hbl, bs_size, ← List.map_append, ← List.length_append]
  refine ow_y (y_nil rfl) ?_
  refine ow_y (y_fld F.fld84_1 rfl) ?_
  refine (ow_store F.sz74 rfl rfl (by first | rfl | assumption) (by rfl) (by (try simp only [List.set_cons_zero, List.set_cons_succ, Nat.reduceAdd, Nat.reduceMul, Int.reduceToNat, Nat.zero_add, Nat.add_zero]); rfl) ?_)
  refine ow_nil ?_
  refine kw_code (fun _ _ h => h) ?_
  refine cw_seq ?_
  refine cw_region ?_
  refine ow_y (y_move rfl) ?_
  refine ow_y (y_len_str F.st9 rfl) ?_
  refine ow_y (y_assign rfl) ?_
  refine ow_y (y_assign rfl) ?_
  refine ow_nil ?_
  refine kw_code (fun _ _ h => h) ?_
  refine cw_retE v14 hv14 (fun _ _ h => h) rfl rfl aSp
end Go.Proofs.YthlclfdnhnnebaaGreatDoor
end
section
set_option maxRecDepth 4000
set_option maxHeartbeats 4000000
namespace Go.Proofs.YthlclfdnhnnebaaGreatDoor
open Go.Sl Go.Sb
theorem cells_u8 : Tryz.prog.cellsOf 5 = 1 := by kernel_rfl
theorem bstring_spec (b : Nat) (p v : Value) (l : B) (h0 : l ≠ []) (hl : l.length ≤ 1000000) : Does Tryz.prog 38 #[ptr b] (bldP b p v l) (Gives (strV l) []) := by
  have hpos : 0 < l.length := List.length_pos_iff.2 h0
  refine does_enter Tryz.func38 rfl Tryz.ntmps38 rfl (fun R w0 => ?_)
  simp only [envOf, List.cons_append, List.nil_append]
  refine cw_rowv (e := 5) aFd hpos fun g cap hv hc => ?_
  subst hv
  refine cw_seq ?_
  refine cw_region ?_
  refine ow_y (y_assign rfl) ?_
  refine ow_nil ?_
  refine kw_code (fun _ _ h => h) ?_
  refine cw_seq ?_
  refine cw_mix (.soft 0 (.soft 1 (.soft 2 (.soft 3 (.soft 5 (.soft 6 (.soft 7 (.soft 8 (.soft 9 (.hard 4 (.hard 10 (.soft 11 .done)))))))))))) [pts b (.cells #[p, .slice (some ⟨g, 0, none⟩) l.length cap] 84 (0, 0))] F.fol (by kernel_rfl) (by repeat (first | with_reducible exact NoSlots.bp | with_reducible apply NoSlots.then | with_reducible apply NoSlots.inBlock)) aSp ?_
  refine om_y rfl (y_move rfl) ?_
  refine om_y rfl (y_nil rfl) ?_
  refine om_y rfl (y_fld F.fld84_1 rfl) ?_
  refine om_y rfl (y_load F.sc74 rfl (by rfl)) ?_
  refine om_y rfl (y_move rfl) ?_
  refine om_y rfl (y_nil rfl) ?_
  refine om_y rfl (y_fld F.fld84_1 rfl) ?_
  refine om_y rfl (y_load F.sc74 rfl (by rfl)) ?_
  refine om_y rfl (y_len_slice F.sl74 rfl) ?_
  refine om_h rfl ?_
  refine ow_y (y_sliceData rfl (by omega)) ?_
  refine ow_nil ?_
  refine om_next aSp ?_
  refine om_h rfl ?_
  refine ow_unsafeString Tryz.underlying158 cells_u8 rfl rfl rfl aFd h0 (by omega) ?_
  refine ow_nil ?_
  refine om_next aSp ?_
  refine om_y rfl (y_assign rfl) ?_
  refine om_nil ?_
  refine kw_code (fun _ _ h => h) ?_
  refine cw_retG (fun _ _ h => h) rfl rfl aSp
theorem bstring0_spec (b : Nat) (p : Value) : Does Tryz.prog 38 #[ptr b] [pts b (.cells #[p, .slice none 0 0] 84 (0, 0))] (Gives (strV []) []) := by
  refine does_enter Tryz.func38 rfl Tryz.ntmps38 rfl (fun R w0 => ?_)
  simp only [envOf, List.cons_append, List.nil_append]
  refine cw_seq ?_
  refine cw_region ?_
  refine ow_y (y_assign rfl) ?_
  refine ow_nil ?_
  refine kw_code (fun _ _ h => h) ?_
  refine cw_seq ?_
  refine cw_mix (.soft 0 (.soft 1 (.soft 2 (.soft 3 (.soft 5 (.soft 6 (.soft 7 (.soft 8 (.soft 9 (.hard 4 (.hard 10 (.soft 11 .done)))))))))))) [pts b (.cells #[p, .slice none 0 0] 84 (0, 0))] F.fol (by kernel_rfl) (by repeat (first | with_reducible exact NoSlots.bp | with_reducible apply NoSlots.then | with_reducible apply NoSlots.inBlock)) aSp ?_
  refine om_y rfl (y_move rfl) ?_
  refine om_y rfl (y_nil rfl) ?_
  refine om_y rfl (y_fld F.fld84_1 rfl) ?_
  refine om_y rfl (y_load F.sc74 rfl (by rfl)) ?_
  refine om_y rfl (y_move rfl) ?_
  refine om_y rfl (y_nil rfl) ?_
  refine om_y rfl (y_fld F.fld84_1 rfl) ?_
  refine om_y rfl (y_load F.sc74 rfl (by rfl)) ?_
  refine om_y rfl (y_len_slice F.sl74 rfl) ?_
  refine om_h rfl ?_
  refine ow_y (y_sliceData0 rfl) ?_
  refine ow_nil ?_
  refine om_next aSp ?_
  refine om_h rfl ?_
  refine ow_y (y_unsafeString0 rfl rfl) ?_
  refine ow_nil ?_
  refine om_next aSp ?_
  refine om_y rfl (y_assign rfl) ?_
  refine om_nil ?_
  refine kw_code (fun _ _ h => h) ?_
  refine cw_retG (fun _ _ h => h) rfl rfl aSp
end Go.Proofs.YthlclfdnhnnebaaGreatDoor
end
section
set_option maxRecDepth 4000
set_option maxHeartbeats 4000000
namespace Go.Proofs.YthlclfdnhnnebaaGreatDoor
open Go.Sl Go.Sb
theorem dread_64 {d : Dk} (hd : DkOK d) {at_ : Int} {b : B} (h : dread d at_ = .ok b) : b.length = 64 := by
  unfold dread at h
  split at h
  · cases h
  · split at h
    · cases h
    · rename_i h1
      simp only [Out.ok.injEq] at h
      have hlt : at_.toNat < d.l.length := by omega
      rw [List.getD_eq_getElem?_getD, List.getElem?_eq_getElem hlt] at h
      have := (hd.1 _ (List.getElem_mem hlt)).2
      rw [← h]; simp only [Option.getD_some]; omega
theorem getD_nat {l : List Nat} {i : Nat} (h : i < l.length) : l.getD i 0 = l[i] := by rw [List.getD_eq_getElem?_getD, List.getElem?_eq_getElem h]; rfl
theorem getD_int {l : List Int} {i : Nat} (h : i < l.length) : l.getD i 0 = l[i] := by rw [List.getD_eq_getElem?_getD, List.getElem?_eq_getElem h]; rfl
section
variable {x : Hd} {s t : St} {i : Nat} {acc b : B}
def accR (x : Hd) (i : Nat) (acc : B) (s : St) : Out B × St := andThen (xparts x (4 - i)) (fun r => ret (acc ++ r)) s
theorem accR_unf (h : i < 4) : accR x i acc s = andThen (andThen (if 0 < x.at_.getD i 0 then andThen (hget (x.at_.getD i 0)) fun s => if crcN s ≠ x.sums.getD i 0 then fail 11 else ret s else ret (zeros 64)) fun s => andThen (xparts x (4 - (i + 1))) fun r => ret (s ++ r)) (fun r => ret (acc ++ r)) s := by
  unfold accR
  obtain ⟨n, hn⟩ : ∃ n, 4 - i = n + 1 := ⟨4 - i - 1, by omega⟩
  have hk : 4 - (n + 1) = i := by omega
  have hk2 : 4 - (i + 1) = n := by omega
  rw [hn, hk2]
  conv => lhs; unfold xparts
  simp only [hk]
theorem accR_join (c : M B) {b : B} (hc : c s = (.ok b, s)) : andThen (andThen c fun s => andThen (xparts x (4 - (i + 1))) fun r => ret (s ++ r)) (fun r => ret (acc ++ r)) s = accR x (i + 1) (acc ++ b) s := by
  unfold accR andThen
  rw [hc]
  simp only
  cases xparts x (4 - (i + 1)) s with
  | mk o u =>
    cases o with
    | ok r => simp only [ret, List.append_assoc]
    | err e => rfl
    | big => rfl
theorem accR_fail (c : M B) {e : Int} {t : St} (hc : c s = (.err e, t)) : andThen (andThen c fun s => andThen (xparts x (4 - (i + 1))) fun r => ret (s ++ r)) (fun r => ret (acc ++ r)) s = (.err e, t) := by
  unfold andThen; rw [hc]
theorem accR_err {e : Int} (h : i < 4) (h0 : 0 < x.at_.getD i 0) (ho : hget (x.at_.getD i 0) s = (.err e, t)) : accR x i acc s = (.err e, t) := by
  rw [accR_unf h]; exact accR_fail _ (by rw [if_pos h0]; exact andThen_err ho)
theorem accR_11 (h : i < 4) (h0 : 0 < x.at_.getD i 0) (ho : hget (x.at_.getD i 0) s = (.ok b, s)) (hc : crcN b ≠ x.sums.getD i 0) : accR x i acc s = (.err 11, s) := by
  rw [accR_unf h]; exact accR_fail _ (by rw [if_pos h0, andThen_ok ho, if_pos hc]; rfl)
theorem accR_ok (h : i < 4) (h0 : 0 < x.at_.getD i 0) (ho : hget (x.at_.getD i 0) s = (.ok b, s)) (hc : crcN b = x.sums.getD i 0) : accR x i acc s = accR x (i + 1) (acc ++ b) s := by
  rw [accR_unf h]; exact accR_join _ (by rw [if_pos h0, andThen_ok ho, if_neg (by simp [hc])]; rfl)
theorem accR_zero (h : i < 4) (h0 : ¬ 0 < x.at_.getD i 0) : accR x i acc s = accR x (i + 1) (acc ++ zeros 64) s := by
  rw [accR_unf h]; exact accR_join _ (by rw [if_neg h0]; rfl)
theorem accR_end : accR x 4 acc s = (.ok acc, s) := by unfold accR andThen xparts; simp [ret]
end
theorem acc_ne {acc : B} {i : Nat} (h : acc.length = 64 * i) (hi : 0 < i) : acc ≠ [] := by intro e; rw [e] at h; simp at h; omega
theorem hd_sum {x : Hd} {i k : Nat} (c1 : (x.at_.map intV).length = 4) (h : i < x.sums.length) (hk : k = 4 + i) : nth (hdL x) k = some (.int .u32 (x.sums[i] : Nat)) := by
  subst hk
  unfold hdL
  rw [nth_eq, List.getElem?_append_right (by omega), c1, Nat.add_sub_cancel_left, List.getElem?_append_left (by simpa using h), List.getElem?_map, List.getElem?_eq_getElem h]; rfl
def bldA (b : Nat) : Nat → Value
  | 0 => .pointer none
  | _ + 1 => ptr b
theorem bldA_or (b i : Nat) : bldA b i = .pointer none ∨ bldA b i = ptr b := by cases i <;> simp [bldA]
set_option maxRecDepth 4000 in
theorem xget_spec (W : World) (a : Ad) (s : St) (at_ : Int) : Does Tryz.prog 85 #[ptr a.st, .int .i64 at_] (RS W a s) (Ran fT (RS W a) strV (xget at_ s)) := by
  by_cases h0 : at_ = 0
  · subst h0
    rw [show xget 0 s = (.ok (zeros 256), s) by unfold xget; rw [if_pos rfl]; rfl]
    refine does_enter Tryz.func85 rfl Tryz.ntmps85 rfl (fun R w0 => ?_)
    simp only [envOf, List.cons_append, List.nil_append]
    refine cw_seq ?_
    refine cw_region ?_
    refine ow_y (y_assign rfl) ?_
    refine ow_nil ?_
    refine kw_code (fun _ _ h => h) ?_
    refine cw_seq ?_
    refine cw_seq ?_
    refine cw_region ?_
    refine ow_y (y_move rfl) ?_
    refine ow_y (y_eql rfl rfl) ?_
    refine ow_nil ?_
    refine kw_code (fun _ _ h => h) ?_
    refine cw_true rfl rfl ?_
    refine cw_seq ?_
    refine cw_region ?_
    refine ow_gives rfl F.hb12 rfl (repeat0 256 (by omega)) aSp ?_
    try simp only [List.cons_append, List.nil_append]
    refine ow_y (y_assign rfl) ?_
    refine ow_nil ?_
    refine kw_code (fun _ _ h => h) ?_
    exact cw_retR rfl (fun _ _ h => h) rfl rfl aSp
  · have e0 : xget at_ s = andThen (xhead at_) (fun x => xparts x 4) s := by unfold xget; rw [if_neg h0]
    refine does_enter Tryz.func85 rfl Tryz.ntmps85 rfl (fun R w0 => ?_)
    simp only [envOf, List.cons_append, List.nil_append]
    refine cw_fact (p := DkOK s.d) aFd fun hdk => ?_
    refine cw_seq ?_
    refine cw_region ?_
    refine ow_y (y_assign rfl) ?_
    refine ow_nil ?_
    refine kw_code (fun _ _ h => h) ?_
    refine cw_seq ?_
    refine cw_seq ?_
    refine cw_region ?_
    refine ow_y (y_move rfl) ?_
    refine ow_y (y_eql rfl rfl) ?_
    refine ow_nil ?_
    refine kw_code (fun _ _ h => h) ?_
    refine cw_false rfl (by simpa using h0) ?_
    refine cw_skip ?_
    refine kw_code (fun _ _ h => h) ?_
    refine cw_seq ?_
    refine cw_region ?_
    refine ow_y (y_move rfl) ?_
    refine ow_y (y_move rfl) ?_
    refine ow_ran rfl F.hb135 rfl (xhead_spec W a s at_) aSp (fun x t ho => ?_) (fun e t ho => by (repeat (first | with_reducible refine kw_inBlock_panic ?_ | with_reducible refine kw_then_panic ?_)); exact kw_errR ((by rw [e0]; exact andThen_err ho)) (fun _ _ h => h) aSp)
    try simp only [List.cons_append, List.nil_append]
    obtain ⟨hts, hln⟩ := xhead_len ho
    rw [hts] at ho ⊢
    have he0 : xget at_ s = accR x 0 [] s := by
      rw [e0, andThen_ok ho]; unfold accR andThen
      cases xparts x (4 - 0) s with
      | mk o u => cases o <;> rfl
    have hsz : (hdL x).toArray.size = 40 := by rw [List.size_toArray, hdL_len hln]
    have c1 : (x.at_.map intV).length = 4 := by simp [hln.n]
    have c2 : (x.sums.map fun n : Nat => Value.int .u32 n).length = 4 := by simp [hln.m]
    refine (ow_alloc F.z213 (fun b5 => ?_))
    refine ow_storeAgg F.sz213 rfl rfl hsz (hdL_one x) (by rw [hsz]; simp [Value.cells]) (splice_all (by rw [hsz]; simp [Value.cells])) ?_
    refine ow_nil ?_
    refine kw_code (fun _ _ h => h) ?_
    refine cw_seq ?_
    refine cw_region ?_
    refine (ow_alloc F.z84 (fun b6 => ?_))
    refine ow_nil ?_
    refine kw_code (fun _ _ h => h) ?_
    refine cw_seq ?_
    refine cw_seq ?_
    refine cw_said (L' := bldP b6 (.pointer none) (.slice none 0 0) [] ++ (pts b5 (.cells (hdL x).toArray 213 (0, 0)) :: RS W a s ++ [R])) (fun w hs => (sat_row_nil 5 1 w hs).re aSp) ?_
    simp only [List.cons_append, List.nil_append]
    refine cw_region ?_
    refine ow_y (y_fld F.fld213_0 rfl) ?_
    refine ow_y (y_loadAgg F.ag210 rfl (by show 0 + 0 + 4 ≤ (hdL x).toArray.size; rw [hsz]; omega) (extract_app (a := []) rfl c1)) ?_
    refine ow_y (y_move rfl) ?_
    refine ow_nil ?_
    refine kw_code (fun _ _ h => h) ?_
    refine cw_block ?_
    refine cw_loop (X := {y : Nat × B × Value // y.1 ≤ 4 ∧ y.2.2.oneCell' = true ∧ y.2.1.length = 64 * y.1 ∧ xget at_ s = accR x y.1 y.2.1 s}) (fun y => [(0, ptr a.st), (5, ptr b5), (6, ptr b6), (17, .agg (x.at_.map intV).toArray), (18, .int .i64 y.1.1)]) (fun y => bldP b6 (bldA b6 y.1.1) y.1.2.2 y.1.2.1 ++ (pts b5 (.cells (hdL x).toArray 213 (0, 0)) :: RS W a s ++ [R])) (fun y => 4 - y.1.1) ⟨(0, [], .slice none 0 0), by omega, rfl, rfl, he0⟩ (by repeat (first | exact Sub.nil | refine Sub.cons rfl ?_)) aSp ?_
    rintro ⟨⟨i, acc, v⟩, hi, hv, hac, he⟩ m0 hm0
    try simp only at hm0
    try dsimp only
    simp only at hi hv hac he
    simp only [List.cons_append, List.nil_append]
    refine cw_seq ?_
    refine cw_region ?_
    refine ow_y (y_lss rfl rfl) ?_
    refine ow_nil ?_
    refine kw_code (fun _ _ h => h) ?_
    refine cw_seq ?_
    refine cw_if rfl (fun hb19 => ?_) (fun hb19 => ?_)
    · skip
      have hi4 : i < 4 := by have := of_decide_eq_true hb19; omega
      have hil : i < x.at_.length := by rw [hln.n]; exact hi4
      have him : i < x.sums.length := by rw [hln.m]; exact hi4
      have hgi := getD_int hil
      have hgs := getD_nat him
      refine cw_skip ?_
      refine kw_code (fun _ _ h => h) ?_
      refine cw_seq ?_
      refine cw_block ?_
      refine cw_seq ?_
      refine cw_region ?_
      refine ow_y (y_move rfl) ?_
      refine ow_y (y_ixv F.ar210 F.sc3 rfl rfl (by omega) (nth_map intV x.at_ i _ hil (by omega))) ?_
      refine ow_y (y_assign rfl) ?_
      refine ow_y (y_assign rfl) ?_
      refine ow_nil ?_
      refine kw_code (fun _ _ h => h) ?_
      refine cw_seq ?_
      refine cw_region ?_
      refine ow_gives rfl F.hb12 rfl (repeat0 64 (by omega)) aSp ?_
      try simp only [List.cons_append, List.nil_append]
      refine ow_y (y_assign rfl) ?_
      refine ow_nil ?_
      refine kw_code (fun _ _ h => h) ?_
      refine cw_seq ?_
      refine cw_seq ?_
      refine cw_region ?_
      refine ow_y (y_move rfl) ?_
      refine ow_y (y_gtr rfl rfl) ?_
      refine ow_nil ?_
      refine kw_code (fun _ _ h => h) ?_
      refine cw_if rfl (fun hb24 => ?_) (fun hb24 => ?_)
      · skip
        have hpos : 0 < x.at_.getD i 0 := by rw [hgi]; exact of_decide_eq_true hb24
        refine cw_seq ?_
        refine cw_region ?_
        refine ow_y (y_move rfl) ?_
        refine ow_y (y_nil rfl) ?_
        refine ow_y (y_fld F.fld195_0 rfl) ?_
        refine ow_y (y_load F.sc62 rfl (by rfl)) ?_
        refine ow_y (y_move rfl) ?_
        refine ow_ran rfl F.hb136 rfl (hget_spec W a s x.at_[i]) aSp (fun bb t ho => ?_) (fun e t ho => by (repeat (first | with_reducible refine kw_inBlock_panic ?_ | with_reducible refine kw_then_panic ?_)); exact kw_errR ((by rw [he]; exact accR_err hi4 hpos (by rw [hgi]; exact ho))) (fun _ _ h => h) aSp)
        try simp only [List.cons_append, List.nil_append]
        obtain ⟨hts, hrd⟩ := hget_ok ho
        rw [hts] at ho ⊢
        have hb64 := dread_64 hdk hrd
        refine ow_y (y_assign rfl) ?_
        refine ow_nil ?_
        refine kw_code (fun _ _ h => h) ?_
        refine cw_seq ?_
        refine cw_mix (.soft 0 (.soft 3 (.soft 4 (.soft 5 (.soft 6 (.hard 1 (.hard 2 (.soft 7 .done)))))))) [pts b5 (.cells (hdL x).toArray 213 (0, 0))] F.fol (by kernel_rfl) (by repeat (first | with_reducible exact NoSlots.bp | with_reducible apply NoSlots.then | with_reducible apply NoSlots.inBlock)) aSp ?_
        refine om_y rfl (y_move rfl) ?_
        refine om_y rfl (y_move rfl) ?_
        refine om_y rfl (y_fld F.fld213_1 rfl) ?_
        refine om_y rfl (y_ixa F.ar211 rfl rfl (by omega)) ?_
        refine om_y rfl (y_load F.sc26 rfl (hd_sum c1 him (by omega))) ?_
        refine om_h rfl ?_
        refine (ow_buildSlice F.sl247 F.z9 rfl rfl rfl (by simp [fillL, madeL, Value.cells] <;> rfl) (fun b32 => ?_))
        refine ow_nil ?_
        refine om_next aSp ?_
        refine om_h rfl ?_
        refine ow_gives rfl F.hb137 rfl (sum1_spec b32 1 (bs bb) (by rw [bs_size, hb64]; simp [maxLen])) aSp ?_
        try simp only [List.cons_append, List.nil_append]
        refine ow_nil ?_
        refine om_next aSp ?_
        refine om_y rfl (y_neq rfl rfl) ?_
        refine om_nil ?_
        refine kw_code (fun _ _ h => h) ?_
        refine cw_if rfl (fun hb38 => ?_) (fun hb38 => ?_)
        · skip
          refine cw_region ?_
          refine ow_fails rfl F.hb29 rfl (fail_spec 11) aSp ?_
          simp only [List.cons_append, List.nil_append]
          repeat (first | with_reducible refine kw_inBlock_panic ?_ | with_reducible refine kw_then_panic ?_)
          exact kw_errR (by rw [he]; exact accR_11 hi4 hpos (by rw [hgi]; exact ho) (by rw [hgs]; have h := hb38; simp only [bne_iff_ne, ne_eq] at h; unfold crcN; omega)) (fun _ _ h => h) aSp
        · skip
          have hcr : crcN bb = x.sums.getD i 0 := by rw [hgs]; have h := hb38; simp only [bne_eq_false_iff_eq] at h; unfold crcN; omega
          refine cw_skip ?_
          refine kw_code (fun _ _ h => h) ?_
          refine cw_region ?_
          refine ow_y (y_move rfl) ?_
          refine ow_givesE rfl F.hb36 rfl (write_spec b6 (bldA b6 i) v (bldA_or b6 i) acc bb (by rw [hac]; omega) (by omega)) aSp ?_
          rintro v41 hv41
          try simp only [List.cons_append, List.nil_append]
          refine ow_nil ?_
          refine kw_code (fun _ _ h => h) ?_
          refine cw_region ?_
          refine ow_y (y_addI rfl rfl (by omega)) ?_
          refine ow_y (y_move rfl) ?_
          refine ow_nil ?_
          refine kw_rnd (fun _ _ h => h) (⟨(i + 1, acc ++ bb, v41), hi4, hv41, by rw [List.length_append, hac, hb64]; omega, he.trans (accR_ok hi4 hpos (by rw [hgi]; exact ho) hcr)⟩) (by first | omega | (simp only; omega)) (by repeat (first | exact Sub.nil | refine Sub.cons rfl ?_)) aSp
      · skip
        have hpos : ¬ 0 < x.at_.getD i 0 := by rw [hgi]; exact of_decide_eq_false hb24
        refine cw_skip ?_
        refine kw_code (fun _ _ h => h) ?_
        refine cw_region ?_
        refine ow_y (y_move rfl) ?_
        refine ow_givesE rfl F.hb36 rfl (write_spec b6 (bldA b6 i) v (bldA_or b6 i) acc (zeros 64) (by rw [hac]; omega) (by simp [zeros])) aSp ?_
        rintro v41 hv41
        try simp only [List.cons_append, List.nil_append]
        refine ow_nil ?_
        refine kw_code (fun _ _ h => h) ?_
        refine cw_region ?_
        refine ow_y (y_addI rfl rfl (by omega)) ?_
        refine ow_y (y_move rfl) ?_
        refine ow_nil ?_
        refine kw_rnd (fun _ _ h => h) (⟨(i + 1, acc ++ zeros 64, v41), hi4, hv41, by rw [List.length_append, hac]; simp [zeros]; omega, he.trans (accR_zero hi4 hpos)⟩) (by first | omega | (simp only; omega)) (by repeat (first | exact Sub.nil | refine Sub.cons rfl ?_)) aSp
    · skip
      obtain rfl : i = 4 := by have := of_decide_eq_false hb19; omega
      refine cw_exit ?_
      refine kw_code (fun _ _ h => h) ?_
      refine cw_seq ?_
      refine cw_region ?_
      refine ow_gives rfl F.hb38 rfl (bstring_spec b6 (bldA b6 4) v acc (acc_ne hac (by omega)) (by rw [hac]; omega)) aSp ?_
      try simp only [List.cons_append, List.nil_append]
      refine ow_y (y_assign rfl) ?_
      refine ow_nil ?_
      refine kw_code (fun _ _ h => h) ?_
      exact cw_retR (he.trans accR_end) (fun _ _ h => h) rfl rfl aSp
end Go.Proofs.YthlclfdnhnnebaaGreatDoor
end
