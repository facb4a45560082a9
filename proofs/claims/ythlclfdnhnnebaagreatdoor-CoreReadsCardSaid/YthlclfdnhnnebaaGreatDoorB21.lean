/- Part of the proof; no statement of its own: A8, M8. -/
import Derived.Test.YthlclfdnhnnebaaGreatDoorB06
import Derived.Test.YthlclfdnhnnebaaGreatDoorB07
import Derived.Test.YthlclfdnhnnebaaGreatDoorB20
import Derived.Test.YthlclfdnhnnebaaGreatDoorB10
import Derived.Test.YthlclfdnhnnebaaGreatDoorB18
set_option linter.all false
section
set_option maxRecDepth 4000
set_option maxHeartbeats 4000000
namespace Go.Proofs.YthlclfdnhnnebaaGreatDoor
open Go.Sl Go.Sb
theorem rotl_spec (x : BitVec 32) (k : Nat) (h1 : 1 ≤ k) (h : k < 32) : Does Tryz.prog 282 #[w32 x, .int .i64 (-(k : Int))] [] (Gives (w32 (x.rotateRight k)) []) := by
  have e1 : bits .and .u64 (IntKind.u64.wrap (-(k : Int))) 31 = ((32 - k : Nat) : Int) := by
    rw [and_31]
    simp only [IntKind.wrap, IntKind.bits, IntKind.signed, Bool.false_and, Bool.false_eq_true, if_false]
    omega
  have e2 : IntKind.u64.wrap (32 - ((32 - k : Nat) : Int)) = (k : Int) := by
    simp only [IntKind.wrap, IntKind.bits, IntKind.signed, Bool.false_and, Bool.false_eq_true, if_false]
    omega
  rw [← rot_eq x k h]
  refine does_enter Tryz.func282 rfl Tryz.ntmps282 rfl (fun R w0 => ?_)
  simp only [envOf, List.cons_append, List.nil_append]
  refine cw_seq ?_
  refine cw_region ?_
  refine ow_y (y_assign rfl) ?_
  refine ow_nil ?_
  refine kw_code (fun _ _ h => h) ?_
  refine cw_seq ?_
  refine cw_region ?_
  refine ow_y (y_move rfl) ?_
  refine ow_y (y_conv F.ts3 F.in92 rfl) ?_
  refine ow_y (y_and rfl rfl) ?_
  rw [e1]
  refine ow_y (y_assign rfl) ?_
  refine ow_nil ?_
  refine kw_code (fun _ _ h => h) ?_
  refine cw_seq ?_
  refine cw_region ?_
  refine ow_y (y_move rfl) ?_
  refine ow_y (y_move rfl) ?_
  refine ow_y (y_shlB rfl rfl (by omega)) ?_
  refine ow_y (y_move rfl) ?_
  refine ow_y (y_move rfl) ?_
  refine ow_y (y_sub rfl rfl) ?_
  rw [e2]
  refine ow_y (y_shrB rfl rfl (by omega)) ?_
  refine ow_y (y_orB rfl rfl) ?_
  refine ow_y (y_assign rfl) ?_
  refine ow_nil ?_
  refine kw_code (fun _ _ h => h) ?_
  refine cw_retG (fun _ _ h => h) rfl rfl aSp
abbrev wsL (l : List (BitVec 32)) : List Value := l.map w32
theorem w4 (a b c d : BitVec 32) : ((((0 : BitVec 32) <<< 8 ||| a) <<< 8 ||| b) <<< 8 ||| c) <<< 8 ||| d = a <<< 24 ||| b <<< 16 ||| c <<< 8 ||| d := by
  simp only [BitVec.shiftLeft_or_distrib, ← BitVec.shiftLeft_add]
  simp
theorem word4 (a b c d : UInt8) (r : List UInt8) : Sha.word (a :: b :: c :: d :: r) = a.toBitVec.setWidth 32 <<< 24 ||| b.toBitVec.setWidth 32 <<< 16 ||| c.toBitVec.setWidth 32 <<< 8 ||| d.toBitVec.setWidth 32 := by
  rw [← w4]; rfl
theorem word_eq (l : B) (i : Nat) (h : 4 * i + 3 < l.length) :
    ((l[4 * i]'(by omega)).toBitVec.setWidth 32 <<< 24 ||| (l[4 * i + 1]'(by omega)).toBitVec.setWidth 32 <<< 16 ||| (l[4 * i + 2]'(by omega)).toBitVec.setWidth 32 <<< 8 ||| (l[4 * i + 3]'h).toBitVec.setWidth 32 : BitVec 32) = Sha.word (l.drop (4 * i)) := by
  have h0 : l[4 * i]'(by omega) = (l.drop (4 * i))[0]'(by simp; omega) := by rw [List.getElem_drop]; rfl
  have h1 : l[4 * i + 1]'(by omega) = (l.drop (4 * i))[1]'(by simp; omega) := by rw [List.getElem_drop]
  have h2 : l[4 * i + 2]'(by omega) = (l.drop (4 * i))[2]'(by simp; omega) := by rw [List.getElem_drop]
  have h3 : l[4 * i + 3]'h = (l.drop (4 * i))[3]'(by simp; omega) := by rw [List.getElem_drop]
  have hl : 4 ≤ (l.drop (4 * i)).length := by simp; omega
  obtain ⟨a, b, c, d, r, hr⟩ : ∃ a b c d r, l.drop (4 * i) = a :: b :: c :: d :: r := by
    match h : l.drop (4 * i), hl with
    | a :: b :: c :: d :: r, _ => exact ⟨a, b, c, d, r, rfl⟩
  have e0 : l[4 * i]'(by omega) = a := by rw [h0]; simp [hr]
  have e1 : l[4 * i + 1]'(by omega) = b := by rw [h1]; simp [hr]
  have e2 : l[4 * i + 2]'(by omega) = c := by rw [h2]; simp [hr]
  have e3 : l[4 * i + 3]'h = d := by rw [h3]; simp [hr]
  rw [e0, e1, e2, e3, hr, word4]
theorem byte_nth {cur : List Value} {o : Nat} {bl : B} (h : (cur.drop o).take 64 = bl.map byteV) (hl : bl.length = 64) {j k : Nat} (hj : j < 64) (hk : k = o + j) : nth cur k = some (byteV (bl[j]'(by omega))) := by
  subst hk
  rw [nth_eq]
  have h1 : ((cur.drop o).take 64)[j]? = (bl.map byteV)[j]? := by rw [h]
  rw [List.getElem?_take_of_lt hj, List.getElem?_drop, List.getElem?_map, List.getElem?_eq_getElem (l := bl) (by omega)] at h1
  exact h1
theorem more_len : ∀ (n : Nat) (w : List Sha.W), (Sha.more n w).length = w.length + n
  | 0, _ => rfl
  | n + 1, w => by unfold Sha.more; rw [more_len n]; simp; omega
theorem more_succ : ∀ (n : Nat) (w : List Sha.W), Sha.more (n + 1) w = Sha.more n w ++ [Sha.nextW (Sha.more n w)]
  | 0, _ => rfl
  | n + 1, w => by
    show Sha.more (n + 1) (w ++ [Sha.nextW w]) = _
    rw [more_succ n]; rfl
theorem words16_len (b : B) : (Sha.words16 b).length = 16 := by simp [Sha.words16]
theorem at_nth {l : List Sha.W} {rest : List Value} {j k : Nat} (hj : j < l.length) (hk : k = j) : nth (l.map w32 ++ rest) k = some (w32 (Sha.at_ l j)) := by
  subst hk
  rw [nth_eq, List.getElem?_append_left (by simpa using hj), List.getElem?_map, List.getElem?_eq_getElem hj]
  unfold Sha.at_
  rw [List.getD_eq_getElem?_getD, List.getElem?_eq_getElem hj]; rfl
theorem push_set {l : List (BitVec 32)} {x : BitVec 32} {z : Value} {n k : Nat} (hk : k = l.length) (hn : 0 < n) : (wsL l ++ List.replicate n z).set k (w32 x) = wsL (l ++ [x]) ++ List.replicate (n - 1) z := by
  subst hk
  obtain ⟨m, rfl⟩ : ∃ m, n = m + 1 := ⟨n - 1, by omega⟩
  rw [List.set_append_right _ _ (by simp), List.replicate_succ]
  simp
theorem spread_spec (g o n cap : Nat) (cur : List Value) (e : TypeId) (fr : Nat × Nat) (bl : B) (hn : 64 ≤ n) (hn2 : n ≤ 9000000000000000000) (hb : (cur.drop o).take 64 = bl.map byteV) (hl : bl.length = 64) :
    Does Tryz.prog 281 #[.slice (some ⟨g, o, none⟩) n cap] [pts g (.cells cur.toArray e fr)] (Gives (.agg (wsL (Sha.words bl)).toArray) [pts g (.cells cur.toArray e fr)]) := by
  have h16 : (wsL (Sha.words16 bl)).length = 16 := by simp [words16_len]
  have hW := more_len
  refine does_enter Tryz.func281 rfl Tryz.ntmps281 rfl (fun R w0 => ?_)
  simp only [envOf, List.cons_append, List.nil_append]
  refine cw_seq ?_
  refine cw_region ?_
  refine (ow_alloc F.z335 (fun b2 => ?_))
  refine ow_nil ?_
  refine kw_code (fun _ _ h => h) ?_
  refine cw_seq ?_
  refine cw_region ?_
  refine (ow_alloc F.z335 (fun b3 => ?_))
  refine ow_nil ?_
  refine kw_code (fun _ _ h => h) ?_
  refine cw_seq ?_
  refine cw_seq ?_
  refine cw_region ?_
  refine ow_y (y_move rfl) ?_
  refine ow_nil ?_
  refine kw_code (fun _ _ h => h) ?_
  refine cw_block ?_
  refine cw_loop (X := {i : Nat // i ≤ 16}) (fun y => [(0, .slice (some ⟨g, o, none⟩) n cap), (2, ptr b2), (3, ptr b3), (10, .int .i64 y.1)]) (fun y => [pts b3 (.cells (filled [] (wsL (Sha.words16 bl)) 16 (w32 0) y.1 (List.replicate 48 (w32 0))).toArray 335 (0, 0)), pts b2 (.cells (List.replicate 64 (w32 0)).toArray 335 (0, 0)), pts g (.cells cur.toArray e fr), R]) (fun y => 16 - y.1) ⟨0, by omega⟩ (by repeat (first | exact Sub.nil | refine Sub.cons rfl ?_)) aSp ?_
  rintro ⟨i, hi⟩ m0 hm0
  try simp only at hm0
  try dsimp only
  skip
  refine cw_seq ?_
  refine cw_region ?_
  refine ow_y (y_lss rfl rfl) ?_
  refine ow_nil ?_
  refine kw_code (fun _ _ h => h) ?_
  refine cw_seq ?_
  refine cw_if rfl (fun hb11 => ?_) (fun hb11 => ?_)
  · skip
    have hi4 : i < 16 := by have := of_decide_eq_true hb11; omega
    have hwd := word_eq bl i (by omega)
    refine cw_skip ?_
    refine kw_code (fun _ _ h => h) ?_
    refine cw_seq ?_
    refine cw_block ?_
    refine cw_seq ?_
    refine cw_region ?_
    refine ow_y (y_move rfl) ?_
    refine ow_y (y_assign rfl) ?_
    refine ow_nil ?_
    refine kw_code (fun _ _ h => h) ?_
    refine cw_tail 34 F.fol (by kernel_rfl) ?_
    simp only [List.take_succ_cons, List.take_zero, List.drop_succ_cons, List.drop_zero]
    refine os_y (y_move rfl) ?_
    refine os_y (y_move rfl) ?_
    refine os_y (y_move rfl) ?_
    refine os_y (y_mulI rfl rfl (by omega)) ?_
    refine os_y (y_ixs F.sl74 rfl rfl (by omega)) ?_
    refine os_y (y_load F.sc5 rfl (byte_nth (j := 4 * i) hb hl (by omega) (by omega))) ?_
    refine os_y (y_convB F.ts5 F.in26 rfl) ?_
    refine os_y (y_shlB (n := 24) rfl rfl (by decide)) ?_
    refine os_y (y_move rfl) ?_
    refine os_y (y_move rfl) ?_
    refine os_y (y_mulI rfl rfl (by omega)) ?_
    refine os_y (y_addI rfl rfl (by omega)) ?_
    refine os_y (y_ixs F.sl74 rfl rfl (by omega)) ?_
    refine os_y (y_load F.sc5 rfl (byte_nth (j := 4 * i + 1) hb hl (by omega) (by omega))) ?_
    refine os_y (y_convB F.ts5 F.in26 rfl) ?_
    refine os_y (y_shlB (n := 16) rfl rfl (by decide)) ?_
    refine os_y (y_orB rfl rfl) ?_
    refine os_y (y_move rfl) ?_
    refine os_y (y_move rfl) ?_
    refine os_y (y_mulI rfl rfl (by omega)) ?_
    refine os_y (y_addI rfl rfl (by omega)) ?_
    refine os_y (y_ixs F.sl74 rfl rfl (by omega)) ?_
    refine os_y (y_load F.sc5 rfl (byte_nth (j := 4 * i + 2) hb hl (by omega) (by omega))) ?_
    refine os_y (y_convB F.ts5 F.in26 rfl) ?_
    refine os_y (y_shlB (n := 8) rfl rfl (by decide)) ?_
    refine os_y (y_orB rfl rfl) ?_
    refine os_y (y_move rfl) ?_
    refine os_y (y_move rfl) ?_
    refine os_y (y_mulI rfl rfl (by omega)) ?_
    refine os_y (y_addI rfl rfl (by omega)) ?_
    refine os_y (y_ixs F.sl74 rfl rfl (by omega)) ?_
    refine os_y (y_load F.sc5 rfl (byte_nth (j := 4 * i + 3) hb hl (by omega) (by omega))) ?_
    refine os_y (y_convB F.ts5 F.in26 rfl) ?_
    refine os_y (y_orB rfl rfl) ?_
    refine os_nil ?_
    rw [hwd]
    refine ow_y (y_ixa F.ar335 rfl rfl (by omega)) ?_
    refine ow_store F.sz26 rfl rfl rfl (by rw [fill_len h16 (by omega)]; simp; omega) (fill_set h16 hi4 (by simp) (by simp [Sha.words16, hi4])) ?_
    refine ow_nil ?_
    refine kw_code (fun _ _ h => h) ?_
    refine cw_region ?_
    refine ow_y (y_addI rfl rfl (by omega)) ?_
    refine ow_y (y_move rfl) ?_
    refine ow_nil ?_
    refine kw_rnd (fun _ _ h => h) (⟨i + 1, hi4⟩) (by first | omega | (simp only; omega)) (by repeat (first | exact Sub.nil | refine Sub.cons rfl ?_)) aSp
  · skip
    obtain rfl : i = 16 := by have := of_decide_eq_false hb11; omega
    rw [fill_done h16, List.nil_append]
    refine cw_exit ?_
    refine kw_code (fun _ _ h => h) ?_
    refine cw_seq ?_
    refine cw_seq ?_
    refine cw_region ?_
    refine ow_y (y_assign rfl) ?_
    refine ow_nil ?_
    refine kw_code (fun _ _ h => h) ?_
    refine cw_block ?_
    refine cw_loop (X := {i : Nat // i ≤ 48}) (fun y => [(0, .slice (some ⟨g, o, none⟩) n cap), (2, ptr b2), (3, ptr b3), (5, .int .i64 (16 + y.1 : Nat))]) (fun y => [pts b3 (.cells (wsL (Sha.more y.1 (Sha.words16 bl)) ++ List.replicate (48 - y.1) (w32 0)).toArray 335 (0, 0)), pts b2 (.cells (List.replicate 64 (w32 0)).toArray 335 (0, 0)), pts g (.cells cur.toArray e fr), R]) (fun y => 48 - y.1) ⟨0, by omega⟩ (by repeat (first | exact Sub.nil | refine Sub.cons rfl ?_)) aSp ?_
    rintro ⟨i, hi⟩ m2 hm2
    try simp only at hm2
    try dsimp only
    have hWl : (Sha.more i (Sha.words16 bl)).length = 16 + i := by rw [more_len, words16_len]
    have hsucc := more_succ i (Sha.words16 bl)
    generalize hWd : Sha.more i (Sha.words16 bl) = W at hWl hsucc ⊢
    refine cw_seq ?_
    refine cw_seq ?_
    refine cw_region ?_
    refine ow_y (y_move rfl) ?_
    refine ow_y (y_lss rfl rfl) ?_
    refine ow_nil ?_
    refine kw_code (fun _ _ h => h) ?_
    refine cw_if rfl (fun hb50 => ?_) (fun hb50 => ?_)
    · skip
      have hi4 : i < 48 := by have := of_decide_eq_true hb50; omega
      refine cw_skip ?_
      refine kw_code (fun _ _ h => h) ?_
      refine cw_seq ?_
      refine cw_block ?_
      refine cw_seq ?_
      refine cw_soft F.fol (by kernel_rfl) ?_
      refine os_y (y_move rfl) ?_
      refine os_y (y_subI rfl rfl (by omega)) ?_
      refine os_y (y_ixa F.ar335 rfl rfl (by omega)) ?_
      refine os_y (y_load F.sc26 rfl (at_nth (j := W.length - 15) (by omega) (by omega))) ?_
      refine os_y (y_move rfl) ?_
      refine os_y (y_subI rfl rfl (by omega)) ?_
      refine os_y (y_ixa F.ar335 rfl rfl (by omega)) ?_
      refine os_y (y_load F.sc26 rfl (at_nth (j := W.length - 2) (by omega) (by omega))) ?_
      refine os_y (y_assign rfl) ?_
      refine os_y (y_assign rfl) ?_
      refine os_nil ?_
      refine kw_code (fun _ _ h => h) ?_
      refine cw_seq ?_
      refine cw_region ?_
      refine ow_y (y_move rfl) ?_
      refine ow_gives rfl F.hb282 rfl (rotl_spec (Sha.at_ W (W.length - 15)) 7 (by omega) (by omega)) aSp ?_
      try simp only [List.cons_append, List.nil_append]
      refine ow_y (y_move rfl) ?_
      refine ow_gives rfl F.hb282 rfl (rotl_spec (Sha.at_ W (W.length - 15)) 18 (by omega) (by omega)) aSp ?_
      try simp only [List.cons_append, List.nil_append]
      refine ow_y (y_xorB rfl rfl) ?_
      refine ow_y (y_move rfl) ?_
      refine ow_y (y_shrB (n := 3) rfl rfl (by decide)) ?_
      refine ow_y (y_xorB rfl rfl) ?_
      refine ow_y (y_assign rfl) ?_
      refine ow_nil ?_
      refine kw_code (fun _ _ h => h) ?_
      refine cw_seq ?_
      refine cw_region ?_
      refine ow_y (y_move rfl) ?_
      refine ow_gives rfl F.hb282 rfl (rotl_spec (Sha.at_ W (W.length - 2)) 17 (by omega) (by omega)) aSp ?_
      try simp only [List.cons_append, List.nil_append]
      refine ow_y (y_move rfl) ?_
      refine ow_gives rfl F.hb282 rfl (rotl_spec (Sha.at_ W (W.length - 2)) 19 (by omega) (by omega)) aSp ?_
      try simp only [List.cons_append, List.nil_append]
      refine ow_y (y_xorB rfl rfl) ?_
      refine ow_y (y_move rfl) ?_
      refine ow_y (y_shrB (n := 10) rfl rfl (by decide)) ?_
      refine ow_y (y_xorB rfl rfl) ?_
      refine ow_y (y_assign rfl) ?_
      refine ow_nil ?_
      refine kw_code (fun _ _ h => h) ?_
      refine cw_tail 14 F.fol (by kernel_rfl) ?_
      simp only [List.take_succ_cons, List.take_zero, List.drop_succ_cons, List.drop_zero]
      refine os_y (y_move rfl) ?_
      refine os_y (y_move rfl) ?_
      refine os_y (y_subI rfl rfl (by omega)) ?_
      refine os_y (y_ixa F.ar335 rfl rfl (by omega)) ?_
      refine os_y (y_load F.sc26 rfl (at_nth (j := W.length - 16) (by omega) (by omega))) ?_
      refine os_y (y_move rfl) ?_
      refine os_y (y_addB rfl rfl) ?_
      refine os_y (y_move rfl) ?_
      refine os_y (y_subI rfl rfl (by omega)) ?_
      refine os_y (y_ixa F.ar335 rfl rfl (by omega)) ?_
      refine os_y (y_load F.sc26 rfl (at_nth (j := W.length - 7) (by omega) (by omega))) ?_
      refine os_y (y_addB rfl rfl) ?_
      refine os_y (y_move rfl) ?_
      refine os_y (y_addB rfl rfl) ?_
      refine os_nil ?_
      rw [show Sha.at_ W (W.length - 16) + ((Sha.at_ W (W.length - 15)).rotateRight 7 ^^^ (Sha.at_ W (W.length - 15)).rotateRight 18 ^^^ (Sha.at_ W (W.length - 15)) >>> 3) + Sha.at_ W (W.length - 7) + ((Sha.at_ W (W.length - 2)).rotateRight 17 ^^^ (Sha.at_ W (W.length - 2)).rotateRight 19 ^^^ (Sha.at_ W (W.length - 2)) >>> 10) = Sha.nextW W from rfl]
      refine ow_y (y_ixa F.ar335 rfl rfl (by omega)) ?_
      refine ow_store F.sz26 rfl rfl rfl (by rw [Nat.blt_eq]; simp [hWl]; omega) (push_set (by rw [hWl]; omega) (by omega)) ?_
      refine ow_nil ?_
      rw [← hsucc, show 48 - i - 1 = 48 - (i + 1) from by omega]
      refine kw_code (fun _ _ h => h) ?_
      refine cw_region ?_
      refine ow_y (y_move rfl) ?_
      refine ow_y (y_addI rfl rfl (by omega)) ?_
      refine ow_y (y_assign rfl) ?_
      refine ow_nil ?_
      rw [show ((16 + i : Nat) : Int) + 1 = ((16 + (i + 1) : Nat) : Int) from by omega]
      refine kw_rnd (fun _ _ h => h) (⟨i + 1, hi4⟩) (by first | omega | (simp only; omega)) (by repeat (first | exact Sub.nil | refine Sub.cons rfl ?_)) aSp
    · skip
      obtain rfl : i = 48 := by have := of_decide_eq_false hb50; omega
      have hsz : (wsL W).toArray.size = 64 := by simp [hWl]
      rw [Nat.sub_self, List.replicate_zero, List.append_nil]
      refine cw_exit ?_
      refine kw_code (fun _ _ h => h) ?_
      refine cw_seq ?_
      refine cw_region ?_
      refine ow_y (y_loadAgg F.ag335 rfl (by rw [hsz]; omega) (extract_all hsz)) ?_
      refine ow_storeAgg F.sz335 rfl rfl hsz (fun x hx => by simp at hx; obtain ⟨_, _, rfl⟩ := hx; rfl) (by rw [hsz]; simp) (splice_all (by rw [hsz]; simp)) ?_
      refine ow_nil ?_
      refine kw_code (fun _ _ h => h) ?_
      refine cw_retGC (fun _ _ h => h) (RV.agg F.ag335 rfl (by rw [hsz]; omega) (extract_all hsz) RV.nil) (by rw [← hWd]; rfl) aSp
end Go.Proofs.YthlclfdnhnnebaaGreatDoor
end
section
namespace Go.Sb
inductive Ob where
  | part (b : B)
  | ext (data : B) (ats : List Int)
  | node (l : Nat) (kids : List Int) (sum : B)
abbrev Gh := List (Int × Ob)
def kidsOf : Ob → List Int
  | .part _ => []
  | .ext _ ats => ats
  | .node _ kids _ => kids
def refsIn (G : Gh) (a : Int) : Nat := (G.map fun p => (kidsOf p.2).count a).sum
def need (G : Gh) (P : List Int) (a : Int) : Nat := P.count a + refsIn G a
def sumOf (G : Gh) (a : Int) : B := match mget a G with | some (.ext d _) => Sha.sum d | some (.node _ _ s) => s | _ => zeros 32
def headOf (data : B) (ats : List Int) : Hd := { at_ := ats, sums := (List.range 4).map fun k => if allZero (part data k) then 0 else crcN (part data k), sum := Sha.sum data }
def obBytes : Ob → B
  | .part b => b
  | .ext d ats => hdBytes (headOf d ats)
  | .node l kids s => ndBytes l { kids := kids, sum := s }
def isKid (G : Gh) : Nat → Int → Prop
  | 0, a => a = 0 ∨ ∃ d ats, mget a G = some (.ext d ats)
  | l + 1, a => a = 0 ∨ ∃ ks s, mget a G = some (.node l ks s)
def okPart (G : Gh) (d : B) (ats : List Int) (k : Nat) : Prop := if allZero (part d k) = true then ats.getD k 0 = 0 else ats.getD k 0 ≠ 0 ∧ mget (ats.getD k 0) G = some (.part (part d k))
def okOb (G : Gh) : Ob → Prop
  | .part b => b.length = 64
  | .ext d ats => d.length = 256 ∧ allZero d = false ∧ ats.length = 4 ∧ ∀ k, k < 4 → okPart G d ats k
  | .node l kids s => l < 3 ∧ kids.length = 8 ∧ kids ≠ none8 ∧ (∀ k ∈ kids, isKid G l k) ∧ s = digest l (kids.map (sumOf G))
structure Inv (s : St) (G : Gh) (P : List Int) : Prop where
  u : UOK s
  nod : mok G
  lo : 1 ≤ s.fr
  hi : s.fr + s.g.length ≤ 65535
  refs : ∀ a, a ≠ 0 → mget a s.refs = if need G P a = 0 then none else some (need G P a : Int)
  live : ∀ a, a ≠ 0 → (need G P a ≠ 0 ↔ (mget a G).isSome = true)
  zero : mget 0 G = none
  held : ∀ a, isB s.fr s.g a 1 = true ↔ (mget a G).isSome = true
  disk : ∀ a o, mget a G = some o → cellAt s.d a.toNat = obBytes o
  typ : ∀ a o, mget a G = some o → okOb G o
  cnt : G.length = s.g.count 1
def Idx (s : St) (G : Gh) : Prop := ∀ k a, mget k s.index = some a ↔ ∃ d ats, mget a G = some (.ext d ats) ∧ k = key s.bits (Sha.sum d)
theorem refsIn_cons (a : Int) (o : Ob) (G : Gh) (x : Int) : refsIn ((a, o) :: G) x = (kidsOf o).count x + refsIn G x := by simp [refsIn]
theorem refsIn_del {a : Int} {o : Ob} : ∀ {G : Gh}, mok G → mget a G = some o → ∀ x, refsIn G x = (kidsOf o).count x + refsIn (mdel a G) x
  | [], _, h, _ => by simp [mget] at h
  | (i, u) :: G, hm, h, x => by
    have h' : i ∉ G.map (·.1) ∧ mok G := by simpa [mok] using hm
    by_cases e : i = a
    · subst e
      simp only [mget, if_pos, Option.some.injEq] at h
      subst h
      simp [mdel, refsIn_cons]
    · simp only [mget, if_neg e] at h
      simp only [mdel, if_neg e, refsIn_cons, refsIn_del h'.2 h x]; omega
theorem refsIn_mem {a : Int} {o : Ob} {x : Int} : ∀ {G : Gh}, mget a G = some o → x ∈ kidsOf o → refsIn G x ≠ 0
  | [], h, _ => by simp [mget] at h
  | (i, u) :: G, h, hx => by
    rw [refsIn_cons]
    by_cases e : i = a
    · subst e
      simp only [mget, if_pos, Option.some.injEq] at h
      subst h
      have := List.count_pos_iff.2 hx; omega
    · simp only [mget, if_neg e] at h
      have := refsIn_mem h hx; omega
theorem mdel_len {K V : Type} [DecidableEq K] {k : K} {v : V} : ∀ {m : List (K × V)}, mget k m = some v → (mdel k m).length + 1 = m.length
  | [], h => by simp [mget] at h
  | (i, u) :: m, h => by
    by_cases e : i = k
    · subst e; simp [mdel]
    · simp only [mget, if_neg e] at h
      simp [mdel, e, mdel_len h]
theorem allZero_eq {l : B} {n : Nat} (h : allZero l = true) (hn : l.length = n) : l = zeros n := by
  subst hn
  unfold allZero at h
  rw [List.all_eq_true] at h
  exact List.eq_replicate_iff.2 ⟨rfl, fun x hx => by simpa using h x hx⟩
theorem zeros_len (n : Nat) : (zeros n).length = n := by simp [zeros]
theorem rnd_len (v : List Sha.W) (k w : Sha.W) : (Sha.rnd v k w).length = 8 := rfl
theorem rnds_len (w v : List Sha.W) (h : v.length = 8) : ∀ n, (Sha.rnds w v n).length = 8
  | 0 => h
  | _ + 1 => rfl
theorem mix_len {h : List Sha.W} (hh : h.length = 8) (b : B) : (Sha.mix h b).length = 8 := by
  unfold Sha.mix; rw [List.length_zipWith, rnds_len _ _ hh, hh]; rfl
theorem mixes_len : ∀ (n : Nat) {h : List Sha.W} (_ : h.length = 8) (b : B), (Sha.mixes n h b).length = 8
  | 0, _, hh, _ => hh
  | n + 1, _, hh, b => mixes_len n (mix_len hh _) _
theorem sha_len (b : B) : (Sha.sum b).length = 32 := by
  unfold Sha.sum
  rw [flat_len (k := 4) fun _ => rfl, mixes_len _ rfl]
theorem digest_len (l : Nat) (ss : List B) : (digest l ss).length = 32 := by
  unfold digest; split
  · exact zeros_len 32
  · exact sha_len _
theorem part_len {d : B} {k : Nat} (hd : d.length = 256) (hk : k < 4) : (part d k).length = 64 := by unfold part; simp; omega
section
variable {s : St} {G : Gh} {P : List Int}
theorem Inv.ne0 (h : Inv s G P) {a : Int} {o : Ob} (ho : mget a G = some o) : a ≠ 0 := by
  rintro rfl; rw [h.zero] at ho; cases ho
theorem Inv.range (h : Inv s G P) {a : Int} {o : Ob} (ho : mget a G = some o) : 0 < a ∧ a < 65536 ∧ (s.fr : Int) ≤ a ∧ a < s.d.l.length := by
  have h1 := isB_iff.1 ((h.held a).2 (by rw [ho]; rfl))
  have h2 := h.u.size; have h3 := h.hi; have h4 := h.lo
  omega
theorem Inv.refsOf (h : Inv s G P) {a : Int} (ha : a ≠ 0) : refsOf s a = need G P a := by
  unfold Go.Sb.refsOf; rw [h.refs a ha]
  by_cases e : need G P a = 0
  · simp [e]
  · simp [e]
theorem Inv.need_pos (h : Inv s G P) {a : Int} {o : Ob} (ho : mget a G = some o) : need G P a ≠ 0 := (h.live a (h.ne0 ho)).2 (by rw [ho]; rfl)
theorem Inv.get (h : Inv s G P) {a : Int} {o : Ob} (ho : mget a G = some o) : hget a s = (.ok (obBytes o), s) := by
  have h1 := h.refsOf (h.ne0 ho)
  have h2 := h.need_pos ho
  have h3 := h.range ho
  unfold hget
  rw [if_neg (by omega)]
  unfold dread
  rw [h.u.run.2]
  simp only [Bool.false_eq_true, if_false]
  rw [if_neg (by omega)]
  have := h.disk a o ho
  unfold cellAt at this
  rw [this]
theorem Inv.kid_range (h : Inv s G P) {l : Nat} {a : Int} (ha : isKid G l a) : 0 ≤ a ∧ a < 65536 := by
  cases l with
  | zero =>
    rcases ha with rfl | ⟨d, ats, ho⟩
    · omega
    · have := h.range ho; omega
  | succ l =>
    rcases ha with rfl | ⟨d, ats, ho⟩
    · omega
    · have := h.range ho; omega
theorem Inv.load (h : Inv s G P) {a : Int} {l : Nat} {kids : List Int} {sum : B} (ho : mget a G = some (.node l kids sum)) : load a l s = (.ok { kids := kids, sum := sum }, s) := by
  obtain ⟨t1, t2, t3, t4, t5⟩ := h.typ a _ ho
  have hb := nd_back (x := { kids := kids, sum := sum }) (l := l) (by omega) ⟨t2, fun x hx => h.kid_range (t4 x hx), by rw [t5]; exact digest_len _ _⟩
  unfold Go.Sb.load
  rw [if_neg (h.ne0 ho), andThen_ok (h.get ho)]
  show (ndParse l (ndBytes l _), s) = _
  rw [hb.1]
theorem load0 (l : Nat) (s : St) : load 0 l s = (.ok { kids := none8, sum := zeros 32 }, s) := by unfold load; rw [if_pos rfl]; rfl
theorem headOK (h : Inv s G P) {a : Int} {d : B} {ats : List Int} (ho : mget a G = some (.ext d ats)) : HdOK (headOf d ats) := by
  obtain ⟨t1, t2, t3, t4⟩ := h.typ a _ ho
  refine ⟨t3, fun x hx => ?_, by simp [headOf], fun c hc => ?_, sha_len _⟩
  · have hx' : x ∈ ats := hx
    obtain ⟨k, hk, rfl⟩ := List.getElem_of_mem hx'
    have hk4 : k < 4 := by omega
    have e : ats.getD k 0 = ats[k] := by rw [List.getD_eq_getElem?_getD, List.getElem?_eq_getElem hk]; rfl
    have := t4 k hk4
    unfold okPart at this
    rw [e] at this
    show 0 ≤ ats[k] ∧ ats[k] < 65536
    split at this
    · omega
    · have := h.range this.2; omega
  · obtain ⟨k, _, rfl⟩ := List.mem_map.1 hc
    split
    · decide
    · exact Nat.lt_of_lt_of_eq (crcN_lt _) (by decide)
theorem Inv.xhead (h : Inv s G P) {a : Int} {d : B} {ats : List Int} (ho : mget a G = some (.ext d ats)) : xhead a s = (.ok (headOf d ats), s) := by
  unfold Go.Sb.xhead
  rw [andThen_ok (h.get ho)]
  show (hdParse (hdBytes _), s) = _
  rw [(hd_back (headOK h ho)).1]
theorem Inv.xparts (h : Inv s G P) {a : Int} {d : B} {ats : List Int} (ho : mget a G = some (.ext d ats)) : ∀ n, n ≤ 4 → xparts (headOf d ats) n s = (.ok (d.drop (64 * (4 - n))), s)
  | 0, _ => by
    have := (h.typ a _ ho).1
    unfold Go.Sb.xparts
    rw [List.drop_eq_nil_of_le (by omega)]; rfl
  | n + 1, hn => by
    obtain ⟨t1, t2, t3, t4⟩ := h.typ a _ ho
    have ih := h.xparts ho n (by omega)
    have ht := t4 (4 - (n + 1)) (by omega)
    have e0 : part d (4 - (n + 1)) ++ d.drop (64 * (4 - n)) = d.drop (64 * (4 - (n + 1))) := by
      rw [show 64 * (4 - n) = 64 * (4 - (n + 1)) + 64 by omega, ← List.drop_drop]
      exact List.take_append_drop _ _
    have hs : (headOf d ats).sums.getD (4 - (n + 1)) 0 = if allZero (part d (4 - (n + 1))) then 0 else crcN (part d (4 - (n + 1))) := by
      have : n = 0 ∨ n = 1 ∨ n = 2 ∨ n = 3 := by omega
      rcases this with rfl | rfl | rfl | rfl <;> rfl
    unfold Go.Sb.xparts
    unfold okPart at ht
    have e1 : (if 0 < (headOf d ats).at_.getD (4 - (n + 1)) 0 then andThen (hget ((headOf d ats).at_.getD (4 - (n + 1)) 0)) fun s => if crcN s ≠ (headOf d ats).sums.getD (4 - (n + 1)) 0 then fail 11 else ret s else ret (zeros 64) : M B) s = (.ok (part d (4 - (n + 1))), s) := by
      show (if 0 < ats.getD (4 - (n + 1)) 0 then _ else _ : M B) s = _
      by_cases hz : allZero (part d (4 - (n + 1))) = true
      · rw [if_pos hz] at ht
        rw [ht, if_neg (by omega), allZero_eq hz (part_len t1 (by omega))]; rfl
      · rw [if_neg hz] at ht
        have := h.range ht.2
        rw [if_pos (by omega)]
        show andThen (hget (ats.getD (4 - (n + 1)) 0)) _ s = _
        rw [andThen_ok (h.get ht.2), hs, if_neg hz]
        show (if crcN (part d (4 - (n + 1))) ≠ crcN (part d (4 - (n + 1))) then fail 11 else ret (part d (4 - (n + 1))) : M B) s = _
        rw [if_neg (by simp)]; rfl
    simp only
    rw [andThen_ok e1, andThen_ok ih, ← e0]; rfl
theorem Inv.xget (h : Inv s G P) {a : Int} {d : B} {ats : List Int} (ho : mget a G = some (.ext d ats)) : xget a s = (.ok d, s) := by
  unfold Go.Sb.xget
  rw [if_neg (h.ne0 ho), andThen_ok (h.xhead ho), h.xparts ho 4 (by omega)]; rfl
theorem xget0 (s : St) : xget 0 s = (.ok (zeros 256), s) := by unfold xget; rw [if_pos rfl]; rfl
def leafOf (G : Gh) (a : Int) : B := match mget a G with | some (.ext d _) => d | _ => zeros 256
theorem Inv.leaf (h : Inv s G P) {a : Int} (ha : isKid G 0 a) : Go.Sb.xget a s = (.ok (leafOf G a), s) := by
  rcases ha with rfl | ⟨d, ats, ho⟩
  · rw [xget0]; unfold leafOf; rw [h.zero]
  · rw [h.xget ho]; unfold leafOf; rw [ho]
theorem Inv.xsum (h : Inv s G P) {a : Int} (ha : isKid G 0 a) : xsum a s = (.ok (sumOf G a), s) := by
  unfold Go.Sb.xsum
  rcases ha with rfl | ⟨d, ats, ho⟩
  · rw [if_pos rfl]; unfold sumOf; rw [h.zero]; rfl
  · rw [if_neg (h.ne0 ho), andThen_ok (h.xhead ho)]; unfold sumOf; rw [ho]; rfl
def kidsAt (G : Gh) (a : Int) : List Int := match mget a G with | some (.node _ ks _) => ks | _ => none8
theorem Inv.loadK (h : Inv s G P) {a : Int} {l : Nat} (ha : isKid G (l + 1) a) : Go.Sb.load a l s = (.ok { kids := kidsAt G a, sum := sumOf G a }, s) := by
  rcases ha with rfl | ⟨ks, sm, ho⟩
  · rw [load0]; unfold kidsAt sumOf; rw [h.zero]
  · rw [h.load ho]; unfold kidsAt sumOf; rw [ho]
theorem none8_kid (G : Gh) (l : Nat) : ∀ k ∈ none8, isKid G l k := by
  intro k hk
  have : k = 0 := by simpa [none8] using hk
  cases l <;> exact .inl this
theorem Inv.kids (h : Inv s G P) {a : Int} {l : Nat} (ha : isKid G (l + 1) a) : (kidsAt G a).length = 8 ∧ ∀ k ∈ kidsAt G a, isKid G l k := by
  rcases ha with rfl | ⟨ks, sm, ho⟩
  · unfold kidsAt; rw [h.zero]; exact ⟨rfl, none8_kid G l⟩
  · unfold kidsAt; rw [ho]
    obtain ⟨t1, t2, t3, t4, t5⟩ := h.typ a _ ho
    exact ⟨t2, t4⟩
theorem getD_mem {l : List Int} {i : Nat} (h : i < l.length) : l.getD i 0 ∈ l := by
  rw [List.getD_eq_getElem?_getD, List.getElem?_eq_getElem h]; exact List.getElem_mem h
def leafAt (G : Gh) : Nat → Int → Nat → Int
  | 0, root, i => (kidsAt G root).getD (slot 0 i).1 0
  | l + 1, root, i => leafAt G l ((kidsAt G root).getD (slot (l + 1) i).1 0) (slot (l + 1) i).2
theorem slot_lt (l i : Nat) : (slot l i).1 < 8 := by unfold slot; exact Nat.mod_lt _ (by decide)
theorem Inv.leafKid (h : Inv s G P) : ∀ (l : Nat) {root : Int} (_ : isKid G (l + 1) root) (i : Nat), isKid G 0 (leafAt G l root i)
  | 0, root, hr, i => (h.kids hr).2 _ (getD_mem (by rw [(h.kids hr).1]; exact slot_lt 0 i))
  | l + 1, root, hr, i => h.leafKid l ((h.kids hr).2 _ (getD_mem (by rw [(h.kids hr).1]; exact slot_lt (l + 1) i))) _
theorem Inv.rget (h : Inv s G P) : ∀ (l : Nat) {root : Int} (_ : isKid G (l + 1) root) (i : Nat), rget l root i s = (.ok (leafAt G l root i), s)
  | 0, root, hr, i => by unfold Go.Sb.rget; rw [andThen_ok (h.loadK hr)]; rfl
  | l + 1, root, hr, i => by
    unfold Go.Sb.rget; rw [andThen_ok (h.loadK hr)]
    exact h.rget l ((h.kids hr).2 _ (getD_mem (by rw [(h.kids hr).1]; exact slot_lt (l + 1) i))) _
theorem Inv.rsums (h : Inv s G P) (l : Nat) : ∀ ks : List Int, (∀ k ∈ ks, isKid G l k) → rsums l ks s = (.ok (ks.map (sumOf G)), s)
  | [], _ => rfl
  | k :: ks, hk => by
    have ih := h.rsums l ks fun x hx => hk x (List.mem_cons_of_mem _ hx)
    have h0 := hk k (List.mem_cons_self ..)
    unfold Go.Sb.rsums
    cases l with
    | zero => rw [andThen_ok (h.xsum h0), andThen_ok ih]; rfl
    | succ l =>
      have e : (andThen (Go.Sb.load k l) fun x => ret x.sum : M B) s = (.ok (sumOf G k), s) := by rw [andThen_ok (h.loadK h0)]; rfl
      simp only
      rw [andThen_ok e, andThen_ok ih]; rfl
end
end Go.Sb
end
