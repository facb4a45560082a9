/- Part of the proof; no statement of its own: A9, CRF0, A44F, A39F, A37F, A30F, A29F, A28F, A27F, A23F, A20F, A18F, SlRowO, A10. -/
import Derived.Test.YthlclfdnhnnebaaGreatDoorB06
import Derived.Test.YthlclfdnhnnebaaGreatDoorB21
import Derived.Lib.LaidTab
import Derived.Test.YthlclfdnhnnebaaGreatDoorRows
import Derived.LaidLaws
import Derived.MakeChecks
import Derived.HandedShaped
import Derived.LaidMore
import Derived.Lay
import Derived.Stop.Joined
import Derived.ProofKit
import Derived.Test.YthlclfdnhnnebaaGreatDoorProg
import Derived.KernelRfl
import Derived.Test.YthlclfdnhnnebaaGreatDoorB07
import Derived.Test.YthlclfdnhnnebaaGreatDoorB08
set_option linter.all false
section
set_option maxRecDepth 4000
set_option maxHeartbeats 4000000
namespace Go.Proofs.YthlclfdnhnnebaaGreatDoor
open Go.Sl Go.Sb
def ShaW (W : World) : Prop := Lib.TabIs Tryz.prog W "stereobate/sha.rounds" .u32 (Sha.rounds.map fun x => (x.toNat : Int))
theorem rdG : Tryz.prog.globalNamed "stereobate/sha.rounds" = some 1 := by kernel_rfl
theorem rd_var {W : World} (h : ShaW W) : W.var? Tryz.prog "stereobate/sha.rounds" = some (wsL Sha.rounds).toArray := by
  have h' : W.var? Tryz.prog "stereobate/sha.rounds" = _ := h
  rw [h', List.map_map]; rfl
abbrev shP (b : Nat) (h : List (BitVec 32)) (wait : Value) (n : Nat) : Asrt := pts b (.cells (wsL h ++ [wait, .int .u64 n]).toArray 281 (0, 0))
theorem rnds_len8 (w v : List Sha.W) (h : v.length = 8) (i : Nat) : (Sha.rnds w v i).length = 8 := by cases i with
  | zero => exact h
  | succ i => rfl
theorem ws_nth {l : List Sha.W} {j k : Nat} (hj : j < l.length) (hk : k = j) : nth (wsL l) k = some (w32 (Sha.at_ l j)) := by
  have := at_nth (rest := []) hj hk
  rwa [List.append_nil] at this
def zipTo (h V : List Sha.W) (j : Nat) : List Sha.W := (List.zipWith (· + ·) h V).take j ++ h.drop j
theorem zipTo_len {h V : List Sha.W} (h8 : h.length = 8) (v8 : V.length = 8) {j : Nat} (hj : j ≤ 8) : (zipTo h V j).length = 8 := by unfold zipTo; simp [h8, v8]; omega
theorem zipTo_at {h V : List Sha.W} (h8 : h.length = 8) (v8 : V.length = 8) {j : Nat} (hj : j < 8) : Sha.at_ (zipTo h V j) j = Sha.at_ h j := by
  unfold zipTo Sha.at_
  rw [List.getD_eq_getElem?_getD, List.getD_eq_getElem?_getD, List.getElem?_append_right (by simp [h8, v8]; omega)]
  simp [h8, v8, show min j 8 = j by omega]
theorem zipTo_set {h V : List Sha.W} {rest : List Value} (h8 : h.length = 8) (v8 : V.length = 8) {j k : Nat} (hj : j < 8) (hk : k = j) : (wsL (zipTo h V j) ++ rest).set k (w32 (Sha.at_ h j + Sha.at_ V j)) = wsL (zipTo h V (j + 1)) ++ rest := by
  subst hk
  rw [List.set_append_left _ _ (by simp [zipTo_len h8 v8 (Nat.le_of_lt hj), hj]), ← List.map_set]
  congr 2
  unfold zipTo
  have hl : ((List.zipWith (· + ·) h V).take k).length = k := by simp [h8, v8]; omega
  have hz : (List.zipWith (· + ·) h V)[k]? = some (Sha.at_ h k + Sha.at_ V k) := by
    unfold Sha.at_
    rw [List.getD_eq_getElem?_getD, List.getD_eq_getElem?_getD, List.getElem?_zipWith, List.getElem?_eq_getElem (by omega), List.getElem?_eq_getElem (by omega)]; rfl
  rw [List.set_append_right _ _ (by omega), hl, Nat.sub_self, List.drop_eq_getElem_cons (by omega), List.set_cons_zero, List.take_succ, hz]
  simp
set_option maxRecDepth 4000 in
theorem mix_spec (W : World) (hW : ShaW W) (b : Nat) (h : List (BitVec 32)) (h8 : h.length = 8) (wait : Value) (nn : Nat) (g o n cap : Nat) (cur : List Value) (e : TypeId) (fr : Nat × Nat) (bl : B) (hn : 64 ≤ n) (hn2 : n ≤ 9000000000000000000) (hb : (cur.drop o).take 64 = bl.map byteV) (hl : bl.length = 64) :
    Does Tryz.prog 258 #[ptr b, .slice (some ⟨g, o, none⟩) n cap] [shP b h wait nn, pts g (.cells cur.toArray e fr), whole W] (Gives (.tuple #[]) [shP b (Sha.mix h bl) wait nn, pts g (.cells cur.toArray e fr), whole W]) := by
  have hws : (wsL h).length = 8 := by simp [h8]
  have hwl : (Sha.words bl).length = 64 := by unfold Sha.words; rw [more_len, words16_len]
  have hwl' : (wsL (Sha.words bl)).toArray.size = 64 := by simp [hwl]
  have hrl : (wsL Sha.rounds).toArray.size = 64 := by rfl
  refine does_enter Tryz.func258 rfl Tryz.ntmps258 rfl (fun R w0 => ?_)
  simp only [envOf, List.cons_append, List.nil_append]
  refine cw_seq ?_
  refine cw_region ?_
  refine ow_y (y_move rfl) ?_
  refine ow_gives rfl F.hb281 rfl (spread_spec g o n cap cur e fr bl hn hn2 hb hl) aSp ?_
  try simp only [List.cons_append, List.nil_append]
  refine (ow_alloc F.z335 (fun b4 => ?_))
  refine ow_storeAgg F.sz335 rfl rfl hwl' (fun x hx => by simp at hx; obtain ⟨_, _, rfl⟩ := hx; rfl) (by rw [hwl']; simp [Value.cells]) (splice_all (by rw [hwl']; rfl)) ?_
  refine ow_nil ?_
  refine kw_code (fun _ _ h => h) ?_
  refine cw_seq ?_
  refine cw_region ?_
  refine ow_y (y_move rfl) ?_
  refine ow_y (y_nil rfl) ?_
  refine ow_y (y_fld F.fld281_0 rfl) ?_
  refine ow_y (y_loadAgg F.ag279 rfl (by simp [h8]) (extract_app (a := []) (b := wsL h) (c := [wait, .int .u64 nn]) rfl hws)) ?_
  refine (ow_alloc F.z279 (fun b5 => ?_))
  refine ow_storeAgg F.sz279 rfl rfl (by simp [h8]) (fun x hx => by simp at hx; obtain ⟨_, _, rfl⟩ := hx; rfl) (by simp [h8, Value.cells]) (splice_all (by simp [h8, Value.cells])) ?_
  refine ow_nil ?_
  refine kw_code (fun _ _ h => h) ?_
  refine cw_seq ?_
  refine cw_seq ?_
  refine cw_region ?_
  refine ow_y (y_loadTab F.ag335 rfl aFd rdG (rd_var hW) hrl) ?_
  refine ow_y (y_move rfl) ?_
  refine ow_nil ?_
  refine kw_code (fun _ _ h => h) ?_
  refine cw_block ?_
  refine cw_loop (X := {i : Nat // i ≤ 64}) (fun y => [(0, ptr b), (4, ptr b4), (5, ptr b5), (19, .agg (wsL Sha.rounds).toArray), (20, .int .i64 y.1)]) (fun y => [pts b5 (.cells (wsL (Sha.rnds (Sha.words bl) h y.1)).toArray 279 (0, 0)), pts b4 (.cells (wsL (Sha.words bl)).toArray 335 (0, 0)), shP b h wait nn, pts g (.cells cur.toArray e fr), whole W, R]) (fun y => 64 - y.1) ⟨0, by omega⟩ (by repeat (first | exact Sub.nil | refine Sub.cons rfl ?_)) aSp ?_
  rintro ⟨i, hi⟩ m0 hm0
  try simp only at hm0
  try dsimp only
  have hv8 := rnds_len8 (Sha.words bl) h h8 i
  have hsucc : Sha.rnds (Sha.words bl) h (i + 1) = Sha.rnd (Sha.rnds (Sha.words bl) h i) (Sha.at_ Sha.rounds i) (Sha.at_ (Sha.words bl) i) := rfl
  generalize hV : Sha.rnds (Sha.words bl) h i = V at hv8 hsucc ⊢
  refine cw_seq ?_
  refine cw_region ?_
  refine ow_y (y_lss rfl rfl) ?_
  refine ow_nil ?_
  refine kw_code (fun _ _ h => h) ?_
  refine cw_seq ?_
  refine cw_if rfl (fun hb21 => ?_) (fun hb21 => ?_)
  · skip
    have hi4 : i < 64 := by have := of_decide_eq_true hb21; omega
    refine cw_skip ?_
    refine kw_code (fun _ _ h => h) ?_
    refine cw_seq ?_
    refine cw_block ?_
    refine cw_seq ?_
    refine cw_region ?_
    refine ow_y (y_move rfl) ?_
    refine ow_y (y_ixv F.ar335 F.sc26 rfl rfl (by omega) (ws_nth (l := Sha.rounds) (j := i) (by exact hi4) (by omega))) ?_
    refine ow_y (y_assign rfl) ?_
    refine ow_y (y_assign rfl) ?_
    refine ow_nil ?_
    refine kw_code (fun _ _ h => h) ?_
    refine cw_seq ?_
    refine cw_region ?_
    refine ow_y (y_ixa F.ar279 rfl rfl (by omega)) ?_
    refine ow_y (y_load F.sc26 rfl (ws_nth (l := V) (j := 4) (by omega) rfl)) ?_
    refine ow_y (y_assign rfl) ?_
    refine ow_nil ?_
    refine kw_code (fun _ _ h => h) ?_
    refine cw_seq ?_
    refine cw_mix (.soft 0 (.soft 1 (.soft 2 (.soft 3 (.soft 4 (.soft 5 (.soft 6 (.soft 7 (.soft 8 (.soft 10 (.soft 13 (.soft 17 (.soft 18 (.soft 19 (.soft 20 (.soft 21 (.soft 22 (.soft 23 (.soft 24 (.soft 25 (.soft 26 (.hard 9 (.hard 11 (.soft 12 (.hard 14 (.soft 15 (.soft 16 (.soft 27 (.soft 28 .done))))))))))))))))))))))))))))) [pts b5 (.cells (wsL V).toArray 279 (0, 0)), pts b4 (.cells (wsL (Sha.words bl)).toArray 335 (0, 0))] F.fol (by kernel_rfl) (by repeat (first | with_reducible exact NoSlots.bp | with_reducible apply NoSlots.then | with_reducible apply NoSlots.inBlock)) aSp ?_
    refine om_y rfl (y_ixa F.ar279 rfl rfl (by omega)) ?_
    refine om_y rfl (y_load F.sc26 rfl (ws_nth (l := V) (j := 7) (by omega) rfl)) ?_
    refine om_y rfl (y_move rfl) ?_
    refine om_y rfl (y_addB rfl rfl) ?_
    refine om_y rfl (y_move rfl) ?_
    refine om_y rfl (y_ixa F.ar335 rfl rfl (by omega)) ?_
    refine om_y rfl (y_load F.sc26 rfl (ws_nth (l := Sha.words bl) (j := i) (by omega) (by omega))) ?_
    refine om_y rfl (y_addB rfl rfl) ?_
    refine om_y rfl (y_move rfl) ?_
    refine om_y rfl (y_move rfl) ?_
    refine om_y rfl (y_move rfl) ?_
    refine om_y rfl (y_move rfl) ?_
    refine om_y rfl (y_ixa F.ar279 rfl rfl (by omega)) ?_
    refine om_y rfl (y_load F.sc26 rfl (ws_nth (l := V) (j := 5) (by omega) rfl)) ?_
    refine om_y rfl (y_andB rfl rfl) ?_
    refine om_y rfl (y_move rfl) ?_
    refine om_y rfl (y_invB rfl) ?_
    refine om_y rfl (y_ixa F.ar279 rfl rfl (by omega)) ?_
    refine om_y rfl (y_load F.sc26 rfl (ws_nth (l := V) (j := 6) (by omega) rfl)) ?_
    refine om_y rfl (y_andB rfl rfl) ?_
    refine om_y rfl (y_xorB rfl rfl) ?_
    refine om_h rfl ?_
    refine ow_gives rfl F.hb282 rfl (rotl_spec (Sha.at_ V 4) 6 (by omega) (by omega)) aSp ?_
    try simp only [List.cons_append, List.nil_append]
    refine ow_nil ?_
    refine om_next aSp ?_
    refine om_h rfl ?_
    refine ow_gives rfl F.hb282 rfl (rotl_spec (Sha.at_ V 4) 11 (by omega) (by omega)) aSp ?_
    try simp only [List.cons_append, List.nil_append]
    refine ow_nil ?_
    refine om_next aSp ?_
    refine om_y rfl (y_xorB rfl rfl) ?_
    refine om_h rfl ?_
    refine ow_gives rfl F.hb282 rfl (rotl_spec (Sha.at_ V 4) 25 (by omega) (by omega)) aSp ?_
    try simp only [List.cons_append, List.nil_append]
    refine ow_nil ?_
    refine om_next aSp ?_
    refine om_y rfl (y_xorB rfl rfl) ?_
    refine om_y rfl (y_addB rfl rfl) ?_
    refine om_y rfl (y_addB rfl rfl) ?_
    refine om_y rfl (y_assign rfl) ?_
    refine om_nil ?_
    refine kw_code (fun _ _ h => h) ?_
    refine cw_seq ?_
    refine cw_region ?_
    refine ow_y (y_ixa F.ar279 rfl rfl (by omega)) ?_
    refine ow_y (y_load F.sc26 rfl (ws_nth (l := V) (j := 0) (by omega) rfl)) ?_
    refine ow_y (y_assign rfl) ?_
    refine ow_nil ?_
    refine kw_code (fun _ _ h => h) ?_
    refine cw_seq ?_
    refine cw_mix (.soft 0 (.soft 2 (.soft 5 (.soft 8 (.soft 9 (.soft 10 (.soft 11 (.soft 12 (.soft 13 (.soft 14 (.soft 15 (.soft 16 (.soft 17 (.soft 18 (.soft 19 (.soft 20 (.soft 21 (.soft 22 (.hard 1 (.hard 3 (.soft 4 (.hard 6 (.soft 7 (.soft 23 (.soft 24 .done))))))))))))))))))))))))) [pts b5 (.cells (wsL V).toArray 279 (0, 0))] F.fol (by kernel_rfl) (by repeat (first | with_reducible exact NoSlots.bp | with_reducible apply NoSlots.then | with_reducible apply NoSlots.inBlock)) aSp ?_
    refine om_y rfl (y_move rfl) ?_
    refine om_y rfl (y_move rfl) ?_
    refine om_y rfl (y_move rfl) ?_
    refine om_y rfl (y_move rfl) ?_
    refine om_y rfl (y_ixa F.ar279 rfl rfl (by omega)) ?_
    refine om_y rfl (y_load F.sc26 rfl (ws_nth (l := V) (j := 1) (by omega) rfl)) ?_
    refine om_y rfl (y_andB rfl rfl) ?_
    refine om_y rfl (y_move rfl) ?_
    refine om_y rfl (y_ixa F.ar279 rfl rfl (by omega)) ?_
    refine om_y rfl (y_load F.sc26 rfl (ws_nth (l := V) (j := 2) (by omega) rfl)) ?_
    refine om_y rfl (y_andB rfl rfl) ?_
    refine om_y rfl (y_xorB rfl rfl) ?_
    refine om_y rfl (y_ixa F.ar279 rfl rfl (by omega)) ?_
    refine om_y rfl (y_load F.sc26 rfl (ws_nth (l := V) (j := 1) (by omega) rfl)) ?_
    refine om_y rfl (y_ixa F.ar279 rfl rfl (by omega)) ?_
    refine om_y rfl (y_load F.sc26 rfl (ws_nth (l := V) (j := 2) (by omega) rfl)) ?_
    refine om_y rfl (y_andB rfl rfl) ?_
    refine om_y rfl (y_xorB rfl rfl) ?_
    refine om_h rfl ?_
    refine ow_gives rfl F.hb282 rfl (rotl_spec (Sha.at_ V 0) 2 (by omega) (by omega)) aSp ?_
    try simp only [List.cons_append, List.nil_append]
    refine ow_nil ?_
    refine om_next aSp ?_
    refine om_h rfl ?_
    refine ow_gives rfl F.hb282 rfl (rotl_spec (Sha.at_ V 0) 13 (by omega) (by omega)) aSp ?_
    try simp only [List.cons_append, List.nil_append]
    refine ow_nil ?_
    refine om_next aSp ?_
    refine om_y rfl (y_xorB rfl rfl) ?_
    refine om_h rfl ?_
    refine ow_gives rfl F.hb282 rfl (rotl_spec (Sha.at_ V 0) 22 (by omega) (by omega)) aSp ?_
    try simp only [List.cons_append, List.nil_append]
    refine ow_nil ?_
    refine om_next aSp ?_
    refine om_y rfl (y_xorB rfl rfl) ?_
    refine om_y rfl (y_addB rfl rfl) ?_
    refine om_y rfl (y_assign rfl) ?_
    refine om_nil ?_
    refine kw_code (fun _ _ h => h) ?_
    refine cw_region ?_
    refine ow_y (y_move rfl) ?_
    refine ow_y (y_move rfl) ?_
    refine ow_y (y_addB rfl rfl) ?_
    refine ow_y (y_ixa F.ar279 rfl rfl (by omega)) ?_
    refine ow_y (y_load F.sc26 rfl (ws_nth (l := V) (j := 0) (by omega) rfl)) ?_
    refine ow_y (y_ixa F.ar279 rfl rfl (by omega)) ?_
    refine ow_y (y_load F.sc26 rfl (ws_nth (l := V) (j := 1) (by omega) rfl)) ?_
    refine ow_y (y_ixa F.ar279 rfl rfl (by omega)) ?_
    refine ow_y (y_load F.sc26 rfl (ws_nth (l := V) (j := 2) (by omega) rfl)) ?_
    refine ow_y (y_ixa F.ar279 rfl rfl (by omega)) ?_
    refine ow_y (y_load F.sc26 rfl (ws_nth (l := V) (j := 3) (by omega) rfl)) ?_
    refine ow_y (y_move rfl) ?_
    refine ow_y (y_addB rfl rfl) ?_
    refine ow_y (y_ixa F.ar279 rfl rfl (by omega)) ?_
    refine ow_y (y_load F.sc26 rfl (ws_nth (l := V) (j := 4) (by omega) rfl)) ?_
    refine ow_y (y_ixa F.ar279 rfl rfl (by omega)) ?_
    refine ow_y (y_load F.sc26 rfl (ws_nth (l := V) (j := 5) (by omega) rfl)) ?_
    refine ow_y (y_ixa F.ar279 rfl rfl (by omega)) ?_
    refine ow_y (y_load F.sc26 rfl (ws_nth (l := V) (j := 6) (by omega) rfl)) ?_
    refine ow_y (y_buildArr (cs := wsL (Sha.rnd V (Sha.at_ Sha.rounds i) (Sha.at_ (Sha.words bl) i))) F.ar279 F.z279 rfl (by rfl)) ?_
    refine ow_storeAgg F.sz279 rfl rfl (by rfl) (fun x hx => by simp at hx; obtain ⟨_, _, rfl⟩ := hx; rfl) (by simp [hv8, rnd_len]) (splice_all (by simp [hv8, rnd_len])) ?_
    refine ow_nil ?_
    rw [← hsucc]
    refine kw_code (fun _ _ h => h) ?_
    refine cw_region ?_
    refine ow_y (y_addI rfl rfl (by omega)) ?_
    refine ow_y (y_move rfl) ?_
    refine ow_nil ?_
    refine kw_rnd (fun _ _ h => h) (⟨i + 1, hi4⟩) (by first | omega | (simp only; omega)) (by repeat (first | exact Sub.nil | refine Sub.cons rfl ?_)) aSp
  · skip
    obtain rfl : i = 64 := by have := of_decide_eq_false hb21; omega
    refine cw_exit ?_
    refine kw_code (fun _ _ h => h) ?_
    refine cw_seq ?_
    refine cw_region ?_
    refine ow_y (y_move rfl) ?_
    refine ow_nil ?_
    refine kw_code (fun _ _ h => h) ?_
    refine cw_block ?_
    refine cw_loop (X := {j : Nat // j ≤ 8}) (fun y => [(0, ptr b), (5, ptr b5), (101, .int .i64 y.1)]) (fun y => [shP b (zipTo h V y.1) wait nn, pts b5 (.cells (wsL V).toArray 279 (0, 0)), pts g (.cells cur.toArray e fr), whole W, R]) (fun y => 8 - y.1) ⟨0, by omega⟩ (by repeat (first | exact Sub.nil | refine Sub.cons rfl ?_)) aSp ?_
    rintro ⟨j, hj⟩ m2 hm2
    try simp only at hm2
    try dsimp only
    skip
    refine cw_seq ?_
    refine cw_region ?_
    refine ow_y (y_lss rfl rfl) ?_
    refine ow_nil ?_
    refine kw_code (fun _ _ h => h) ?_
    refine cw_seq ?_
    refine cw_if rfl (fun hb102 => ?_) (fun hb102 => ?_)
    · skip
      have hj4 : j < 8 := by have := of_decide_eq_true hb102; omega
      refine cw_skip ?_
      refine kw_code (fun _ _ h => h) ?_
      refine cw_seq ?_
      refine cw_block ?_
      refine cw_seq ?_
      refine cw_region ?_
      refine ow_y (y_move rfl) ?_
      refine ow_y (y_assign rfl) ?_
      refine ow_nil ?_
      refine kw_code (fun _ _ h => h) ?_
      refine cw_tail 12 F.fol (by kernel_rfl) ?_
      simp only [List.take_succ_cons, List.take_zero, List.drop_succ_cons, List.drop_zero]
      refine os_y (y_move rfl) ?_
      refine os_y (y_move rfl) ?_
      refine os_y (y_nil rfl) ?_
      refine os_y (y_fld F.fld281_0 rfl) ?_
      refine os_y (y_ixa F.ar279 rfl rfl (by omega)) ?_
      refine os_y (y_load F.sc26 rfl (at_nth (l := zipTo h V j) (j := j) (by rw [zipTo_len h8 hv8 hj]; exact hj4) (by omega))) ?_
      refine os_y (y_move rfl) ?_
      refine os_y (y_ixa F.ar279 rfl rfl (by omega)) ?_
      refine os_y (y_load F.sc26 rfl (ws_nth (l := V) (j := j) (by omega) (by omega))) ?_
      refine os_y (y_addB rfl rfl) ?_
      refine os_y (y_nil rfl) ?_
      refine os_y (y_fld F.fld281_0 rfl) ?_
      refine os_nil ?_
      refine ow_y (y_ixa F.ar279 rfl rfl (by omega)) ?_
      rw [zipTo_at h8 hv8 hj4]
      refine ow_store F.sz26 rfl rfl rfl (by rw [Nat.blt_eq]; simp [zipTo_len h8 hv8 hj]; omega) (zipTo_set h8 hv8 hj4 (by omega)) ?_
      refine ow_nil ?_
      refine kw_code (fun _ _ h => h) ?_
      refine cw_region ?_
      refine ow_y (y_addI rfl rfl (by omega)) ?_
      refine ow_y (y_move rfl) ?_
      refine ow_nil ?_
      refine kw_rnd (fun _ _ h => h) (⟨j + 1, hj4⟩) (by first | omega | (simp only; omega)) (by repeat (first | exact Sub.nil | refine Sub.cons rfl ?_)) aSp
    · skip
      obtain rfl : j = 8 := by have := of_decide_eq_false hb102; omega
      refine cw_exit ?_
      have hz : zipTo h V 8 = Sha.mix h bl := by unfold zipTo Sha.mix; rw [List.drop_eq_nil_of_le (by omega), List.append_nil, List.take_of_length_le (by simp [h8, hv8]), hV]
      rw [hz]
      exact kw_finG rfl rfl aSp
end Go.Proofs.YthlclfdnhnnebaaGreatDoor
end
section
set_option maxRecDepth 4000
set_option maxHeartbeats 4000000
namespace Go.Proofs.YthlclfdnhnnebaaGreatDoor
open Go.ChangeShapes Go.WideShapes Go.ChangeAt Go.RowKit Go.Sl
theorem gRounds : Tryz.prog.globalNamed "stereobate/sha.rounds" = some 1 := by kernel_rfl
theorem shW_of {W : World} {r : List (String × DataW Unit)}
    (h : laidMet Tryz.prog (("stereobate/sha.rounds", Rows.laid_stereobate_sha_rounds) :: r) W) (_ : W.ShapedOpen Tryz.prog) : ShaW W :=
  Lib.tabIs_of_head (n := 64) (e := 26) (t := 335) gRounds (by kernel_rfl) Tryz.underlying335 Tryz.underlying26 (by kernel_rfl) (by kernel_rfl) h
theorem handed {H : Type} {enc : TypeId × Value → H} {a : Assume} {C : Checked} {os : Os} {f : FuncId} {fn : Func} {s : ChangeSpec} {conds : List PathCond} {apart fresh handsOn again : Bool} {L : List (String × DataW Unit)}
    (own : ownKnob C.prog.godebug = none) (started : os.Started) (noInit : C.prog.inits.idxOf? f = none) (hfn : C.prog.funcs[f]? = some fn)
    (witness : ∃ (w : World) (tape : Tape) (i : Input), w.os = os ∧ (w.forCall tape i).Shaped C.prog ∧ i.vars = [] ∧ Input.okWide C.prog (w.forCall tape i) .any w.heap.size f i ∧
      ((s.pre enc C.prog fn conds apart (w.forCall tape i).memory i.args ∧ laidMetH C.prog L (w.forCall tape i).memory) ∧ sizedMet enc C.prog fn (OpenSpec.ofChange s) apart (w.forCall tape i).memory i.args) ∧ a.holds C.prog (lone (Frame.enter C.prog f i.args .normal) [] (w.forCall tape i)))
    (contract : ∀ (W : World) (base : Nat) (args : Array Value) (ds gs : List (DataW H)) (before : List MemPlace),
      (∀ (j : Nat) t v, fn.params[j]? = some t → args[j]? = some v → Value.okWide C.prog W .any base t v) → DataW.Whole enc C.prog fn.params.toList s.vars apart W args.toList ds gs before →
      W.ShapedOpen C.prog → laidMetH C.prog L W → Calls C.prog f args W fun e W' => ∃ v, e = .returned v ∧ s.post enc C.prog fn apart fresh handsOn again W args v W') :
    ReturnsInHanded a C os f .any (fun w args => (s.pre enc C.prog fn conds apart w args ∧ laidMetH C.prog L w) ∧ sizedMet enc C.prog fn (OpenSpec.ofChange s) apart w args) (s.post enc C.prog fn apart fresh handsOn again) := by
  refine returnsInHanded_of_calls own started noInit witness fun w tape i _ hsh _ hok hpre _ => ?_
  obtain ⟨_, _, _, g, hg, _, _, _, _, hval⟩ := hok
  cases Option.some.inj (hg.symm.trans hfn)
  obtain ⟨⟨⟨ds, gs, before, hw, _⟩, hx⟩, _⟩ := hpre
  have hw' : DataW.Whole enc C.prog fn.params.toList s.vars apart (w.forCall tape i) i.args.toList ds gs before := DataW.Whole.of_heap (by rfl) hw
  have hx' : laidMetH C.prog L (w.forCall tape i) := laidMetH.of_heap (w := (w.forCall tape i).memory) (by rfl) hx
  refine (contract (w.forCall tape i) w.heap.size i.args ds gs before hval hw' hsh hx').mono fun e W' h => ?_
  obtain ⟨v, rfl, hp⟩ := h
  exact ChangeSpec.post_blind hp
end Go.Proofs.YthlclfdnhnnebaaGreatDoor
end
section
namespace Go.Proofs.YthlclfdnhnnebaaGreatDoor
open Go
end Go.Proofs.YthlclfdnhnnebaaGreatDoor
end
section
namespace Go.Proofs.YthlclfdnhnnebaaGreatDoor
open Go
theorem F.hb69 : Sl.hasBody Tryz.prog 69 = true := by kernel_rfl
theorem F.hb70 : Sl.hasBody Tryz.prog 70 = true := by kernel_rfl
theorem F.hb71 : Sl.hasBody Tryz.prog 71 = true := by kernel_rfl
theorem F.hb72 : Sl.hasBody Tryz.prog 72 = true := by kernel_rfl
theorem F.pl139 : Sl.tyPlaces Tryz.prog 139 = some ([(0, 1), (1, 1)], .agg #[.slice none 0 0, .int .i64 (0)]) := by kernel_rfl
theorem F.pl144 : Sl.tyPlaces Tryz.prog 144 = some ([(0, 1), (1, 1), (2, 1), (3, 1), (4, 1), (5, 1), (6, 1)], .agg #[.pointer none, .pointer none, .pointer none, .map none, .map none, .slice none 0 0, .int .i64 (0)]) := by kernel_rfl
theorem F.pl155 : Sl.tyPlaces Tryz.prog 155 = some ([(0, 1), (1, 1)], .agg #[.pointer none, .pointer none]) := by kernel_rfl
theorem F.pl195 : Sl.tyPlaces Tryz.prog 195 = some ([(0, 1), (1, 1), (2, 1)], .agg #[.pointer none, .int .i64 (0), .map none]) := by kernel_rfl
theorem F.pl69 : Sl.tyPlaces Tryz.prog 69 = some ([(0, 1), (1, 1), (2, 1), (3, 1), (4, 1)], .agg #[.pointer none, .pointer none, .map none, .int .u32 (0), .int .u32 (0)]) := by kernel_rfl
end Go.Proofs.YthlclfdnhnnebaaGreatDoor
end
section
namespace Go.Proofs.YthlclfdnhnnebaaGreatDoor
open Go
theorem F.hb33 : Sl.hasBody Tryz.prog 33 = true := by kernel_rfl
theorem F.hb34 : Sl.hasBody Tryz.prog 34 = true := by kernel_rfl
theorem F.hb38 : Sl.hasBody Tryz.prog 38 = true := by kernel_rfl
theorem F.z84 : (match Tryz.prog.info? 84 with | some i => i.zero | none => none) = some (.agg #[.pointer none, .slice none 0 0]) := by kernel_rfl
end Go.Proofs.YthlclfdnhnnebaaGreatDoor
end
section
namespace Go.Proofs.YthlclfdnhnnebaaGreatDoor
open Go
theorem F.hb79 : Sl.hasBody Tryz.prog 79 = true := by kernel_rfl
end Go.Proofs.YthlclfdnhnnebaaGreatDoor
end
section
namespace Go.Proofs.YthlclfdnhnnebaaGreatDoor
open Go
theorem F.fld155_1 : Sl.tyField Tryz.prog 155 1 1 = true := by kernel_rfl
theorem F.hb125 : Sl.hasBody Tryz.prog 125 = true := by kernel_rfl
theorem F.hb126 : Sl.hasBody Tryz.prog 126 = true := by kernel_rfl
theorem F.hb85 : Sl.hasBody Tryz.prog 85 = true := by kernel_rfl
theorem F.hb86 : Sl.hasBody Tryz.prog 86 = true := by kernel_rfl
theorem F.sc134 : Sl.tyScalar Tryz.prog 134 = true := by kernel_rfl
end Go.Proofs.YthlclfdnhnnebaaGreatDoor
end
section
namespace Go.Proofs.YthlclfdnhnnebaaGreatDoor
open Go
theorem F.fld72_2 : Sl.tyField Tryz.prog 72 2 2 = true := by kernel_rfl
theorem F.hb80 : Sl.hasBody Tryz.prog 80 = true := by kernel_rfl
end Go.Proofs.YthlclfdnhnnebaaGreatDoor
end
section
namespace Go.Proofs.YthlclfdnhnnebaaGreatDoor
open Go
end Go.Proofs.YthlclfdnhnnebaaGreatDoor
end
section
namespace Go.Proofs.YthlclfdnhnnebaaGreatDoor
open Go
theorem F.hb193 : Sl.hasBody Tryz.prog 193 = true := by kernel_rfl
theorem F.hb194 : Sl.hasBody Tryz.prog 194 = true := by kernel_rfl
end Go.Proofs.YthlclfdnhnnebaaGreatDoor
end
section
namespace Go.Proofs.YthlclfdnhnnebaaGreatDoor
open Go
end Go.Proofs.YthlclfdnhnnebaaGreatDoor
end
section
namespace Go.Proofs.YthlclfdnhnnebaaGreatDoor
open Go
end Go.Proofs.YthlclfdnhnnebaaGreatDoor
end
section
namespace Go.Sl
open Go.BigFrame
def rowO (e : TypeId) (size : Nat) (v : Value) (n : Nat) (xs : List Value) : Asrt := fun l =>
  xs.length = n * size ∧ ((v = .slice none 0 0 ∧ n = 0 ∧ l = []) ∨
    ∃ (g o cap : Nat) (cur : List Value), v = .slice (some ⟨g, o, none⟩) n cap ∧ n ≤ cap ∧ cap ≤ maxLen ∧ o + cap * size ≤ cur.length ∧ (cur.drop o).take (n * size) = xs ∧ l = [(g, .cells cur.toArray e (0, 0))])
theorem rowO_nil (e : TypeId) (size : Nat) {w : World} {L : List Asrt} (h : Sat w L) : Sat w (rowO e size (.slice none 0 0) 0 [] :: L) := by
  obtain ⟨l, h1, h2, h3⟩ := h
  exact ⟨l, ⟨[], l, rfl, ⟨by simp, .inl ⟨rfl, rfl, rfl⟩⟩, h1⟩, h2, h3⟩
theorem rowO_cases {e : TypeId} {size : Nat} {v : Value} {n : Nat} {xs : List Value} {w : World} {L : List Asrt} (h : Sat w (rowO e size v n xs :: L)) :
    xs.length = n * size ∧ ((v = .slice none 0 0 ∧ n = 0 ∧ Sat w L) ∨
      ∃ (g o cap : Nat) (cur : List Value), v = .slice (some ⟨g, o, none⟩) n cap ∧ n ≤ cap ∧ cap ≤ maxLen ∧ o + cap * size ≤ cur.length ∧ (cur.drop o).take (n * size) = xs ∧ Sat w (pts g (.cells cur.toArray e (0, 0)) :: L)) := by
  obtain ⟨l, ⟨l1, l2, rfl, ⟨hl, h1⟩, h2⟩, hn, hh⟩ := h
  refine ⟨hl, ?_⟩
  rcases h1 with ⟨rfl, rfl, rfl⟩ | ⟨g, o, cap, cur, rfl, a1, a2, a3, a4, rfl⟩
  · exact .inl ⟨rfl, rfl, l2, h2, hn, hh⟩
  · exact .inr ⟨g, o, cap, cur, rfl, a1, a2, a3, a4, _, ⟨_, l2, rfl, rfl, h2⟩, hn, hh⟩
theorem rowO_mk {e : TypeId} {size : Nat} {n g o cap : Nat} {cur xs : List Value} {w : World} {L : List Asrt} (h : Sat w (pts g (.cells cur.toArray e (0, 0)) :: L)) (h1 : n ≤ cap) (h2 : cap ≤ maxLen) (h3 : o + cap * size ≤ cur.length)
    (h4 : (cur.drop o).take (n * size) = xs) : Sat w (rowO e size (.slice (some ⟨g, o, none⟩) n cap) n xs :: L) := by
  obtain ⟨l, ⟨l1, l2, rfl, h5, h6⟩, hn, hh⟩ := h
  have hnc : n * size ≤ cap * size := Nat.mul_le_mul_right _ h1
  exact ⟨_, ⟨l1, l2, rfl, ⟨by rw [← h4]; simp; omega, .inr ⟨g, o, cap, cur, rfl, h1, h2, h3, h4, h5⟩⟩, h6⟩, hn, hh⟩
theorem rowO_one {e : TypeId} {size : Nat} {v : Value} {n : Nat} {xs : List Value} {w : World} {L : List Asrt} (h : Sat w (rowO e size v n xs :: L)) : v.oneCell' = true := by
  obtain ⟨_, hc⟩ := rowO_cases h
  rcases hc with ⟨rfl, _⟩ | ⟨g, o, cap, cur, rfl, _⟩ <;> rfl
section
variable {c : Cx} {ops : Array Oper} {Q : Exit → Act → World → Prop} {rest : List Oper} {env : List (Nat × Value)} {L M : List Asrt}
  {d : Tmp} {ty : TypeId} {pos : String} {af : Array Edge} {y : Code}
theorem ow_appendO {s x : Operand} {t tx e size bytes n m : Nat} {v y z : Value} {xs news : List Value} (ht : tySlice c.P t e size = true) (hby : tyBytes c.P e bytes = true)
    (hz : (match c.P.info? e with | some i => i.zero | none => none) = some z) (hzs : z.cells.size = size) (hs : evo env s = some v) (hx : evo env x = some y)
    (hL : Fnd L (rowO e size v n xs) M) (hsrc : ∀ a w, Holds c env L a w → Src c.P size tx y m news w) (h63 : n + m ≤ maxLen) (hb : (n + m) * bytes ≤ 140737488355328)
    (h : ∀ v', v'.oneCell' = true → OW c ops Q rest ((d, v') :: env) (rowO e size v' (n + m) (xs ++ news) :: M)) (hd : Nat.blt d c.n = true := by rfl) :
    OW c ops Q (⟨some d, .call { callee := .builtin .append, args := #[s, x], argTypes := #[t, tx] }, ty, pos, af, none⟩ :: rest) env L := by
  intro a w hh
  simp only [tySlice, Bool.and_eq_true] at ht
  obtain ⟨ht1, ht2⟩ := ht
  split at ht1
  case h_2 => cases ht1
  rename_i e' hu
  simp only [beq_iff_eq] at ht1; subst ht1
  unfold tyBytes at hby
  split at ht2
  case h_2 => cases ht2
  rename_i i hi
  rw [hi] at hby hz
  simp only [beq_iff_eq] at ht2 hby
  subst ht2; subst hby
  have hsr := hsrc a w hh
  have hsrD := hsrc a w.drew hh.drew
  have hsat := hL.sat hh.sat
  obtain ⟨hlen, hcase⟩ := rowO_cases hsat
  refine wpList_plain rfl fun K hK => ?_
  have hgoal : ∃ v' w', (Builtin.append_ #[t, tx] ty #[v, y]).run c.P w = .ok v' w' ∧ Sat w' (rowO e' i.size v' (n + m) (xs ++ news) :: M) ∧ Like w w' := by
    have hnl : news.length = m * i.size := hsr.newsLen
    have hlen' : (xs ++ news).length = (n + m) * i.size := by rw [List.length_append, hlen, hnl, Nat.add_mul]
    have grown : ∀ (old : Nat), old < n + m → Sat w M →
        Sat (w.drew.alloc (.cells ((xs ++ news).toArray ++ Builtin.zeroCells z.cells (grownCap w (n + m) old e' - (n + m))) e')) (rowO e' i.size (.slice (some ⟨w.heap.size, 0, none⟩) (n + m) (grownCap w (n + m) old e')) (n + m) (xs ++ news) :: M) := by
      intro old ho hM
      have hge := grownCap_ge w (n + m) old e'
      have h1 := (hM.drew).alloc (.cells ((xs ++ news).toArray ++ Builtin.zeroCells z.cells (grownCap w (n + m) old e' - (n + m))) e')
      have h2 : ((xs ++ news).toArray ++ Builtin.zeroCells z.cells (grownCap w (n + m) old e' - (n + m))) = ((xs ++ news) ++ (Builtin.zeroCells z.cells (grownCap w (n + m) old e' - (n + m))).toList).toArray := by
        apply Array.ext'; simp
      rw [h2] at h1 ⊢
      refine rowO_mk h1 hge (grownCap_le_maxLen w (n + m) old e' h63) ?_ ?_
      · rw [List.length_append, hlen', Array.length_toList, size_zeroCells, hzs, Nat.zero_add, ← Nat.add_mul]
        exact Nat.mul_le_mul_right _ (by omega)
      · rw [List.drop_zero, ← hlen']; exact List.take_left
    rcases hcase with ⟨rfl, rfl, hM⟩ | ⟨g, o, cap, cur, rfl, hnc, hcm, hcl, htake, hM⟩
    · have hxs : xs = [] := List.eq_nil_of_length_eq_zero (by simpa using hlen)
      subst hxs
      by_cases hm : m = 0
      · subst hm
        have hn0 : news = [] := List.eq_nil_of_length_eq_zero (by simpa using hnl)
        subst hn0
        refine ⟨.slice none 0 0, w, ?_, rowO_nil _ _ hM, Like.refl w⟩
        rcases hsr.kind with ⟨e2, hk⟩ | hk <;>
          simp [Builtin.append_, run_underlying hu, run_underlying hk, sizeOf, typeInfo, hi, hsr.len, hsr.cells]
      · have hr := run_append_grow_src (P := c.P) (w := w) t tx ty e' i z hu hi hz none 0 0 [] (by simp [Builtin.firstCells]) y m news hsr (by omega) (by simp only [maxLen] at h63; omega) (growslice_fits (by omega) hb)
        simp only [Nat.zero_add, List.nil_append] at hr grown ⊢
        exact ⟨_, _, hr, grown 0 (by omega) hM, (Like.refl w).drew.alloc _⟩
    · have hnc' : n * i.size ≤ cap * i.size := Nat.mul_le_mul_right _ hnc
      by_cases hroom : n + m ≤ cap
      · have hroom' : n * i.size + m * i.size ≤ cap * i.size := by rw [← Nat.add_mul]; exact Nat.mul_le_mul_right _ hroom
        have hfit : o + n * i.size + 0 + news.length ≤ cur.toArray.size := by
          rw [List.size_toArray, hnl]; omega
        have hst := run_storeCells_blk (P := c.P) news (o + n * i.size) 0 cur.toArray w hM.pts hfit hsr.one
        simp only [Nat.add_zero] at hst
        refine ⟨.slice (some ⟨g, o, none⟩) (n + m) cap, _, ?_, ?_, (Like.refl w).put g (.cells (cur.toArray.extract 0 (o + n * i.size) ++ news.toArray ++ cur.toArray.extract (o + n * i.size + news.length) cur.toArray.size) e' (0, 0))⟩
        · rcases hsr.kind with ⟨e2, hk⟩ | hk <;>
            simp [Builtin.append_, run_underlying hu, run_underlying hk, sizeOf, typeInfo, hi, hsr.len, hsr.cells, hroom, addr_add, hst]
        · have hcl' : o + n * i.size + news.length ≤ cur.length := by simpa using hfit
          have h2 : (cur.toArray.extract 0 (o + n * i.size) ++ news.toArray ++ cur.toArray.extract (o + n * i.size + news.length) cur.toArray.size) = (cur.take (o + n * i.size) ++ news ++ cur.drop (o + n * i.size + news.length)).toArray := by
            apply Array.ext'
            simp
            rw [List.take_of_length_le (by simp)]
          rw [h2]
          refine rowO_mk hM.put hroom hcm ?_ ?_
          · simp only [List.length_append, List.length_take, List.length_drop]; omega
          · have e1 : cur.take (o + n * i.size) = cur.take o ++ xs := by rw [List.take_add, htake]
            have hto : (cur.take o).length = o := by simp; omega
            rw [e1, List.append_assoc, List.append_assoc, List.drop_left' hto, ← List.append_assoc, ← hlen']; exact List.take_left
      · have hold : (Builtin.firstCells i.size n (.slice (some ⟨g, o, none⟩) n cap)).run c.P w.drew = .ok xs.toArray w.drew := by
          have h1 := run_loadCells_blk (P := c.P) (w := w.drew) (b := g) (o := o) (n := n * i.size) (cs := cur.toArray) (e := e') (fr := (0, 0)) hM.drew.pts (by
            rw [List.size_toArray]; omega)
          have h2 : cur.toArray.extract o (o + n * i.size) = xs.toArray := by
            apply Array.ext'
            rw [Array.toList_extract, List.extract_eq_take_drop, show o + n * i.size - o = n * i.size by omega]; exact htake
          simp only [Builtin.firstCells]
          rw [h1, h2]
        have hr := run_append_grow_src (P := c.P) (w := w) t tx ty e' i z hu hi hz (some ⟨g, o, none⟩) n cap xs hold y m news hsr (by omega) (by simp only [maxLen] at h63; omega) (growslice_fits (by omega) hb)
        exact ⟨_, _, hr, grown cap (by omega) hM.tail, (Like.refl w).drew.alloc _⟩
  obtain ⟨v', w', hr, hs', hl⟩ := hgoal
  unfold Oper.wp
  rw [execOp_builtin, builtin_append]
  have e1 : (#[s, x] : Array Operand).map a.eval = #[v, y] := by simp [hh.eval hs, hh.eval hx]
  rw [e1]
  simp only [Sem.run_bind, hr, Result.andThen_ok, Sem.run_pure, Oper.upon]
  exact hK _ _ (h v' (rowO_one hs') _ _ ((⟨hh.size, hh.slots, hh.defers, hs', hh.like.trans hl⟩ : Holds c env _ a w').put d v' hd))
theorem y_len_rowO {t e n : TypeId} {x : Operand} {dd : Option Tmp} {g : Option (Nat × Bool)} {e' size k : Nat} {v : Value} {xs : List Value} (ht : tySlice c.P t e n = true) (hx : evo env x = some v) (hL : Fnd L (rowO e' size v k xs) M) :
    Yields c ⟨dd, .call { callee := .builtin .len, args := #[x], argTypes := #[t] }, ty, pos, af, g⟩ env L (.int .i64 k) := by
  intro a w hh
  obtain ⟨_, hcase⟩ := rowO_cases (hL.sat hh.sat)
  rcases hcase with ⟨rfl, rfl, _⟩ | ⟨g, o, cap, cur, rfl, _⟩
  · exact y_len_slice ht hx a w hh
  · exact y_len_slice ht hx a w hh
theorem cw_rowO {e : TypeId} {size : Nat} {v : Value} {n : Nat} {xs : List Value} (hL : Fnd L (rowO e size v n xs) M) (hn : 0 < n)
    (h : ∀ (g o cap : Nat) (cur : List Value), v = .slice (some ⟨g, o, none⟩) n cap → n ≤ cap → cap ≤ maxLen → o + cap * size ≤ cur.length → (cur.drop o).take (n * size) = xs → CW c y Q env (pts g (.cells cur.toArray e (0, 0)) :: M)) : CW c y Q env L := fun a w hh => by
  obtain ⟨hl, hc⟩ := rowO_cases (hL.sat hh.sat)
  rcases hc with ⟨_, h0, _⟩ | ⟨g, o, cap, cur, hv, h1, h2, h3, h4, hs⟩
  · omega
  · exact h g o cap cur hv h1 h2 h3 h4 a w ⟨hh.size, hh.slots, hh.defers, hs, hh.like⟩
end
theorem rowO_cut {e : TypeId} {n g o cap k : Nat} {cur xs : List Value} {w : World} {L : List Asrt} (h : Sat w (pts g (.cells cur.toArray e (0, 0)) :: L)) (h1 : n ≤ cap) (h2 : cap ≤ maxLen) (h3 : o + cap * 1 ≤ cur.length)
    (h4 : (cur.drop o).take (n * 1) = xs) (hk : k ≤ n) : Sat w (rowO e 1 (.slice (cutA (some ⟨g, o, none⟩) k cap 1) (n - k) (cap - k)) (n - k) (xs.drop k) :: L) := by
  unfold cutA
  have hxl : xs.length ≤ n := by rw [← h4]; simp; omega
  by_cases e0 : cap = k
  · subst e0
    obtain rfl : n = cap := by omega
    rw [if_pos rfl]
    refine rowO_mk (size := 1) (o := o) (cap := n - n) (n := n - n) h (by omega) (by omega) (by omega) ?_
    rw [List.drop_eq_nil_of_le hxl, Nat.sub_self]; simp
  · rw [if_neg e0]
    simp only [Option.map_some, addr_add, Nat.mul_one]
    refine rowO_mk (size := 1) (o := o + k) (cap := cap - k) (n := n - k) h (by omega) (by omega) (by omega) ?_
    rw [← h4, List.drop_take, List.drop_drop, Nat.mul_one, Nat.mul_one]
end Go.Sl
end
section
set_option maxRecDepth 4000
set_option maxHeartbeats 4000000
namespace Go.Proofs.YthlclfdnhnnebaaGreatDoor
open Go.Sl Go.Sb
theorem mixes_succ : ∀ (n : Nat) (h : List Sha.W) (b : B), Sha.mixes (n + 1) h b = Sha.mix (Sha.mixes n h b) ((b.drop (64 * n)).take 64)
  | 0, h, b => rfl
  | n + 1, h, b => by
    show Sha.mixes (n + 1) (Sha.mix h (b.take 64)) (b.drop 64) = _
    rw [mixes_succ n, List.drop_drop]
    show _ = Sha.mix (Sha.mixes n (Sha.mix h (b.take 64)) (b.drop 64)) _
    rw [Nat.mul_succ, Nat.add_comm (64 * n)]
theorem mixes_len8 : ∀ (n : Nat) (h : List Sha.W) (b : B), h.length = 8 → (Sha.mixes n h b).length = 8
  | 0, _, _, hh => hh
  | n + 1, h, b, hh => mixes_len8 n _ _ (by unfold Sha.mix; rw [List.length_zipWith, rnds_len8 _ _ hh, hh]; rfl)
abbrev waitP (v : Value) (l : B) : Asrt := rowO 5 1 v l.length (l.map byteV)
theorem sh_nth8 {h : List Sha.W} {v u : Value} (h8 : h.length = 8) : nth (wsL h ++ [v, u]) 8 = some v := by
  rw [nth_eq, List.getElem?_append_right (by simp [h8])]; simp [h8]
theorem sh_nth9 {h : List Sha.W} {v u : Value} (h8 : h.length = 8) : nth (wsL h ++ [v, u]) 9 = some u := by
  rw [nth_eq, List.getElem?_append_right (by simp [h8])]; simp [h8]
theorem sh_set8 {h : List Sha.W} {v u x : Value} (h8 : h.length = 8) : (wsL h ++ [v, u]).set 8 x = wsL h ++ [x, u] := by
  rw [List.set_append_right _ _ (by simp [h8])]; simp [h8]
theorem sh_set9 {h : List Sha.W} {v u x : Value} (h8 : h.length = 8) : (wsL h ++ [v, u]).set 9 x = wsL h ++ [v, x] := by
  rw [List.set_append_right _ _ (by simp [h8])]; simp [h8]
theorem wait_cut {g o cap : Nat} {cur : List Value} {dl : B} {w : World} {L : List Asrt} (h : Sat w (pts g (.cells cur.toArray 5 (0, 0)) :: L)) (h1 : dl.length ≤ cap) (h2 : cap ≤ maxLen) (h3 : o + cap * 1 ≤ cur.length)
    (h4 : (cur.drop o).take (dl.length * 1) = dl.map byteV) (hk : 64 ≤ dl.length) : Sat w (waitP (.slice (cutA (some ⟨g, o, none⟩) 64 cap 1) (dl.drop 64).length (cap - 64)) (dl.drop 64) :: L) := by
  have := rowO_cut h h1 h2 h3 h4 hk
  rwa [← List.map_drop, show dl.length - 64 = (dl.drop 64).length by simp] at this
set_option maxRecDepth 4000 in
theorem add_spec (W : World) (hW : ShaW W) (b : Nat) (h : List (BitVec 32)) (h8 : h.length = 8) (v : Value) (hv : v.oneCell' = true) (nn : Nat) (wl l : B) (hwl : wl.length < 64) (hll : l.length ≤ 1000000) (hnn : nn ≤ 1000000000) :
    Does Tryz.prog 205 #[ptr b, strV l] [shP b h v nn, waitP v wl, whole W]
      (GivesE (fun v' : Value => v'.oneCell' = true) (fun _ => .tuple #[]) fun v' => [shP b (Sha.mixes ((wl ++ l).length / 64) h (wl ++ l)) v' (nn + l.length), waitP v' ((wl ++ l).drop (64 * ((wl ++ l).length / 64))), whole W]) := by
  have hsl : (bs l).data.toList.length = l.length := by simp
  have hbl : byteCells (bs l) = l.map byteV := by simp [byteCells, byteV]
  refine does_enter Tryz.func205 rfl Tryz.ntmps205 rfl (fun R w0 => ?_)
  simp only [envOf, List.cons_append, List.nil_append]
  refine cw_seq ?_
  refine cw_region ?_
  refine ow_y (y_move rfl) ?_
  refine ow_y (y_nil rfl) ?_
  refine ow_y (y_fld F.fld281_2 rfl) ?_
  refine ow_y (y_load F.sc161 rfl (sh_nth9 h8)) ?_
  refine ow_y (y_move rfl) ?_
  refine ow_y (y_len_str F.st9 rfl) ?_
  refine ow_y (y_conv F.ts3 F.in161 rfl) ?_
  rw [bs_size, wrap_u64 (l.length : Int) l.length rfl (by omega)]
  refine ow_y (y_add rfl rfl) ?_
  rw [wrap_u64 ((nn : Int) + (l.length : Int)) (nn + l.length) (by omega) (by omega)]
  refine ow_y (y_nil rfl) ?_
  refine ow_y (y_fld F.fld281_2 rfl) ?_
  refine ow_store F.sz161 rfl rfl rfl (by rw [Nat.blt_eq]; simp [h8]) (sh_set9 h8) ?_
  refine ow_nil ?_
  refine kw_code (fun _ _ h => h) ?_
  refine cw_seq ?_
  refine cw_region ?_
  refine ow_y (y_move rfl) ?_
  refine ow_y (y_move rfl) ?_
  refine ow_y (y_nil rfl) ?_
  refine ow_y (y_fld F.fld281_1 rfl) ?_
  refine ow_y (y_load F.sc74 rfl (sh_nth8 h8)) ?_
  refine ow_y (y_move rfl) ?_
  refine (ow_appendO F.sl74 F.tb5 F.z5 rfl rfl rfl aFd (src_str F.st9) (by rw [bs_size]; simp only [maxLen]; omega) (by rw [bs_size]; omega) (fun v20 hv20 => ?_))
  rw [hbl, bs_size, ← List.map_append, ← List.length_append]
  refine ow_y (y_nil rfl) ?_
  refine ow_y (y_fld F.fld281_1 rfl) ?_
  refine ow_store F.sz74 rfl rfl hv20 (by rw [Nat.blt_eq]; simp [h8]) (sh_set8 h8) ?_
  refine ow_nil ?_
  generalize hall : wl ++ l = al
  refine kw_code (fun _ _ h => h) ?_
  refine cw_block ?_
  refine cw_loop (X := {y : Nat × Value // y.1 ≤ al.length / 64 ∧ y.2.oneCell' = true}) (fun y => [(0, ptr b)]) (fun y => [shP b (Sha.mixes y.1.1 h al) y.1.2 (nn + l.length), waitP y.1.2 (al.drop (64 * y.1.1)), whole W, R]) (fun y => al.length / 64 - y.1.1) ⟨(0, v20), by omega, hv20⟩ (by repeat (first | exact Sub.nil | refine Sub.cons rfl ?_)) aSp ?_
  rintro ⟨⟨i, v'⟩, hi, hv'⟩ m0 hm0
  try simp only at hm0
  try dsimp only
  simp only at hi hv'
  have hm8 := mixes_len8 i h al h8
  have hsucc := mixes_succ i h al
  have hdl : (al.drop (64 * i)).length = al.length - 64 * i := by simp
  have hal : al.length ≤ 1000100 := by rw [← hall, List.length_append]; omega
  generalize hH : Sha.mixes i h al = H at hm8 hsucc ⊢
  generalize hD : al.drop (64 * i) = dl at hdl hsucc ⊢
  refine cw_seq ?_
  refine cw_seq ?_
  refine cw_region ?_
  refine ow_y (y_move rfl) ?_
  refine ow_y (y_nil rfl) ?_
  refine ow_y (y_fld F.fld281_1 rfl) ?_
  refine ow_y (y_load F.sc74 rfl (sh_nth8 hm8)) ?_
  refine ow_y (y_len_rowO F.sl74 rfl aFd) ?_
  refine ow_y (y_geq rfl rfl) ?_
  refine ow_nil ?_
  refine kw_code (fun _ _ h => h) ?_
  refine cw_if rfl (fun hb28 => ?_) (fun hb28 => ?_)
  · skip
    have hd64 : 64 ≤ dl.length := by have := of_decide_eq_true hb28; omega
    have hil : i < al.length / 64 := by omega
    refine cw_skip ?_
    refine kw_code (fun _ _ h => h) ?_
    refine cw_block ?_
    refine cw_seq ?_
    refine cw_rowO aFd (by omega) fun g o cap cur hvs hc1 hc2 hc3 hc4 => ?_
    refine cw_region ?_
    subst hvs
    refine ow_y (y_move rfl) ?_
    refine ow_y (y_move rfl) ?_
    refine ow_y (y_nil rfl) ?_
    refine ow_y (y_fld F.fld281_1 rfl) ?_
    refine ow_y (y_load F.sc74 rfl (sh_nth8 hm8)) ?_
    refine ow_y (y_sliceH F.sl74 rfl rfl (by omega)) ?_
    have hb64 : (cur.drop o).take 64 = (dl.take 64).map byteV := by rw [List.map_take, ← hc4, Nat.mul_one, List.take_take, Nat.min_eq_left hd64]
    refine ow_gives rfl F.hb258 rfl (mix_spec W hW b H hm8 _ (nn + l.length) g o 64 cap cur 5 (0, 0) (dl.take 64) (by omega) (by omega) hb64 (by simp; omega)) aSp ?_
    try simp only [List.cons_append, List.nil_append]
    refine ow_nil ?_
    rw [← hsucc]
    refine kw_code (fun _ _ h => h) ?_
    refine cw_region ?_
    refine ow_y (y_move rfl) ?_
    refine ow_y (y_move rfl) ?_
    refine ow_y (y_nil rfl) ?_
    refine ow_y (y_fld F.fld281_1 rfl) ?_
    refine ow_y (y_load F.sc74 rfl (sh_nth8 (mixes_len8 _ _ _ h8))) ?_
    refine ow_y (y_sliceL F.sl74 rfl rfl (by omega) (by omega)) ?_
    rw [show Int.toNat 64 = 64 from rfl, show dl.length - 64 = (dl.drop 64).length by simp]
    refine ow_y (y_nil rfl) ?_
    refine ow_y (y_fld F.fld281_1 rfl) ?_
    refine ow_store F.sz74 rfl rfl rfl (by rw [Nat.blt_eq]; simp [mixes_len8 _ _ _ h8]) (sh_set8 (mixes_len8 _ _ _ h8)) ?_
    refine ow_nil ?_
    have hnext : al.drop (64 * (i + 1)) = dl.drop 64 := by rw [← hD, drop_step]
    refine kw_said (fun w hs => wait_cut ((show Fnd _ (pts g _) _ from aFd).sat hs) hc1 hc2 hc3 hc4 hd64) ?_
    rw [← hnext]
    refine kw_rnd (fun _ _ h => h) (⟨(i + 1, .slice (cutA (some ⟨g, o, none⟩) 64 cap 1) (al.drop (64 * (i + 1))).length (cap - 64)), hil, rfl⟩) (by first | omega | (simp only; omega)) (by repeat (first | exact Sub.nil | refine Sub.cons rfl ?_)) aSp
  · skip
    have hd64 : ¬ 64 ≤ dl.length := by have := of_decide_eq_false hb28; omega
    obtain rfl : i = al.length / 64 := by omega
    refine cw_exit ?_
    rw [← hH, ← hD]
    exact kw_finE v' hv' rfl rfl aSp
end Go.Proofs.YthlclfdnhnnebaaGreatDoor
end
