/- Part of the proof; no statement of its own: C2. -/
import Derived.Test.YtofffddcbjkdcaaC1
import Derived.Test.YtofffddcbjkdcaaSlLaw
set_option linter.all false
namespace Go.Proofs.Ytofffddcbjkdcaa
open Go.Sl
theorem inv_u32 (x : BitVec 32) : bits .xor .u32 (if IntKind.u32.signed then -1 else IntKind.u32.max) (x.toNat : Int) = ((~~~ x).toNat : Int) := by
  have h : (if IntKind.u32.signed then -1 else IntKind.u32.max) = ((BitVec.allOnes 32).toNat : Int) := by decide
  rw [h, xor_u32]
  have e : BitVec.allOnes 32 ^^^ x = ~~~ x := by rw [BitVec.xor_comm]; exact BitVec.xor_allOnes
  rw [e]
theorem shr4 (x : BitVec 32) : ((x.toNat : Int) / (2 : Int) ^ Int.toNat 4) = ((x >>> 4).toNat : Int) := by simp [Nat.shiftRight_eq_div_pow]
theorem byte_u32 (c : UInt8) : IntKind.u32.wrap (c.toNat : Int) = ((c.toBitVec.setWidth 32).toNat : Int) := by
  rw [IntKind.wrap_u32, BitVec.toNat_setWidth]
  have h := c.toNat_lt
  have e : c.toBitVec.toNat = c.toNat := rfl
  rw [e]; omega
theorem tab_at (y : BitVec 32) (i : Nat) (hi : i = (y &&& 15#32).toNat) : nth (tabL 16) i = some (.int .u32 ((Crc.tab (y &&& 15#32)).toNat : Int)) := by
  subst hi
  have h : (y &&& 15#32).toNat < 16 := by rw [BitVec.toNat_and]; exact Nat.lt_of_le_of_lt Nat.and_le_right (by decide)
  rw [nth_eq]
  simp only [tabL, List.getElem?_map, List.getElem?_range h, Option.map_some, if_pos h, tabF, Crc.tab, BitVec.ofNat_toNat, BitVec.setWidth_eq]
theorem and15 (y : BitVec 32) : bits .and .u32 (y.toNat : Int) 15 = ((y &&& 15#32).toNat : Int) := and_u32 y 15#32
theorem and15_lt (y : BitVec 32) : 0 ≤ ((y &&& 15#32).toNat : Int) ∧ ((y &&& 15#32).toNat : Int) < 16 := by
  have h : (y &&& 15#32).toNat < 16 := by rw [BitVec.toNat_and]; exact Nat.lt_of_le_of_lt Nat.and_le_right (by decide)
  omega
theorem bytes_at (s : ByteArray) (cap i : Nat) (h : i < s.size) (k : Nat) (hk : k = i) : nth (bytesL s cap) k = some (byteV (s.data.toList[i]'(by simpa using h))) := by
  subst hk
  have hl : k < (s.data.toList.map byteV).length := by simpa using h
  rw [nth_eq, bytesL, List.getElem?_append_left hl, List.getElem?_eq_getElem hl, List.getElem_map]
/-- all bytes, one text behind the other -/
def bytesOf (ss : List ByteArray) : List UInt8 := ss.flatMap fun s => s.data.toList
theorem bytesOf_take (ss : List ByteArray) (i : Nat) (h : i < ss.length) : bytesOf (ss.take (i + 1)) = bytesOf (ss.take i) ++ ss[i].data.toList := by
  simp only [bytesOf]
  rw [List.take_succ, List.getElem?_eq_getElem h, List.flatMap_append]; simp
theorem run_take (x : BitVec 32) (l : List UInt8) (i : Nat) (h : i < l.length) : Crc.run x (l.take (i + 1)) = Crc.byt (Crc.run x (l.take i)) l[i] := by
  rw [List.take_succ, List.getElem?_eq_getElem h, Crc.run_append]; simp [Crc.run]
theorem sumA_spec (p : Option Addr) (cap : Nat) (ss : List ByteArray) (A : Asrt) (hn : ss.length ≤ maxLen) (hs : ∀ s ∈ ss, s.size ≤ maxLen)
    (hA : ∀ i (h : i < ss.length), ∃ a, p = some a ∧ ∀ (w : World) L, Sat w (A :: L) → w.cell? (a.add i) = some (.string ss[i])) :
    Does Try.prog 13 #[.slice p ss.length cap] [A] (Gives (.int .u32 ((Crc.crc (bytesOf ss)).toNat : Int)) [A]) := by
  simp only [maxLen] at hn
  refine does_enter Try.func13 rfl Try.ntmps13 rfl (fun R w0 => ?_)
  simp only [envOf, List.cons_append, List.nil_append]
  refine cw_seq ?_
  refine cw_region ?_
  refine ow_y (y_assign rfl) ?_
  refine ow_nil ?_
  refine kw_code (fun _ _ h => h) ?_
  refine cw_seq ?_
  refine cw_region ?_
  refine ow_gives rfl F.hb34 rfl (table_spec) (by repeat (first | exact Split.nil | apply Split.cons (by repeat (first | exact Fnd.here | apply Fnd.there)))) ?_
  simp only [List.cons_append, List.nil_append]
  refine (ow_alloc F.z60 (fun b3 => ?_))
  refine ow_storeAgg F.sz60 rfl rfl (by simp [tabL]) (fun x hx => tabL_one _ x (by simpa using hx)) (by simp [tabL, Value.cells]) (splice_all (by simp [tabL, Value.cells])) ?_
  refine ow_nil ?_
  refine kw_code (fun _ _ h => h) ?_
  refine cw_seq ?_
  refine cw_region ?_
  refine ow_y (y_assign rfl) ?_
  refine ow_nil ?_
  refine kw_code (fun _ _ h => h) ?_
  refine cw_seq ?_
  refine cw_seq ?_
  refine cw_region ?_
  refine ow_y (y_move rfl) ?_
  refine ow_y (y_len_slice F.sl59 rfl) ?_
  refine ow_y (y_move rfl) ?_
  refine ow_nil ?_
  refine kw_code (fun _ _ h => h) ?_
  refine cw_block ?_
  refine cw_loop (X := {i : Nat // i ≤ ss.length}) (fun x => [(3, .pointer (some ⟨b3, 0, none⟩)), (4, .int .u32 ((Crc.run (~~~ 0#32) (bytesOf (ss.take x.1))).toNat : Int)), (10, .slice p ss.length cap), (11, .int .i64 ss.length), (12, .int .i64 x.1)]) (fun x => [A, R, pts b3 (.cells (tabL 16).toArray 60 (0, 0))]) (fun x => ss.length - x.1) ⟨0, by omega⟩ (by repeat (first | exact Sub.nil | refine Sub.cons rfl ?_)) (by repeat (first | exact Split.nil | apply Split.cons (by repeat (first | exact Fnd.here | apply Fnd.there)))) ?_
  rintro ⟨i, hi⟩ m0 hm0
  try simp only at hm0
  try dsimp only
  skip
  refine cw_seq ?_
  refine cw_region ?_
  refine ow_y (y_lss rfl rfl) ?_
  refine ow_nil ?_
  refine kw_code (fun _ _ h => h) ?_
  refine cw_seq ?_
  refine cw_if rfl (fun hb13 => ?_) (fun hb13 => ?_)
  · skip
    have hlt : i < ss.length := by have := of_decide_eq_true hb13; omega
    obtain ⟨a, rfl, hc⟩ := hA i hlt
    have hsz : ss[i].size ≤ 9223372036854775807 := hs _ (List.getElem_mem hlt)
    have hsl : ss[i].data.toList.length = ss[i].size := by simp
    refine cw_skip ?_
    refine kw_code (fun _ _ h => h) ?_
    refine cw_seq ?_
    refine cw_block ?_
    refine cw_seq ?_
    refine cw_region ?_
    refine ow_y (y_ixsA F.sl59 rfl rfl (by omega)) ?_
    refine ow_y (y_loadP F.sc9 rfl (by repeat (first | exact Fnd.here | apply Fnd.there)) (fun w L h => by simpa using hc w L h)) ?_
    refine ow_y (y_assign rfl) ?_
    refine ow_nil ?_
    refine kw_code (fun _ _ h => h) ?_
    refine cw_seq ?_
    refine cw_region ?_
    refine ow_y (y_move rfl) ?_
    refine ow_bytes F.st9 F.sl29 F.by5 rfl (by simp only [maxLen]; omega) (fun b17 k17 hk17 hm17 => ?_)
    refine ow_y (y_len_slice F.sl29 rfl) ?_
    refine ow_y (y_move rfl) ?_
    refine ow_nil ?_
    refine kw_code (fun _ _ h => h) ?_
    refine cw_block ?_
    refine cw_loop (X := {j : Nat // j ≤ ss[i].size}) (fun x => [(3, .pointer (some ⟨b3, 0, none⟩)), (4, .int .u32 ((Crc.run (Crc.run (~~~ 0#32) (bytesOf (ss.take i))) (ss[i].data.toList.take x.1)).toNat : Int)), (10, .slice (some a) ss.length cap), (11, .int .i64 ss.length), (12, .int .i64 i), (17, .slice (some ⟨b17, 0, none⟩) ss[i].size k17), (18, .int .i64 ss[i].size), (19, .int .i64 x.1)]) (fun x => [A, R, pts b3 (.cells (tabL 16).toArray 60 (0, 0)), pts b17 (.cells (bytesL ss[i] k17).toArray 5 (k17, k17 + 1))]) (fun x => ss[i].size - x.1) ⟨0, by omega⟩ (by repeat (first | exact Sub.nil | refine Sub.cons rfl ?_)) (by repeat (first | exact Split.nil | apply Split.cons (by repeat (first | exact Fnd.here | apply Fnd.there)))) ?_
    rintro ⟨j, hj⟩ m2 hm2
    try simp only at hm2
    try dsimp only
    skip
    refine cw_seq ?_
    refine cw_region ?_
    refine ow_y (y_lss rfl rfl) ?_
    refine ow_nil ?_
    refine kw_code (fun _ _ h => h) ?_
    refine cw_seq ?_
    refine cw_if rfl (fun hb20 => ?_) (fun hb20 => ?_)
    · skip
      have hjt : j < ss[i].size := by have := of_decide_eq_true hb20; omega
      refine cw_skip ?_
      refine kw_code (fun _ _ h => h) ?_
      refine cw_seq ?_
      refine cw_block ?_
      refine cw_seq ?_
      refine cw_region ?_
      refine ow_y (y_ixs F.sl29 rfl rfl (by omega)) ?_
      refine ow_y (y_load F.sc5 rfl (bytes_at ss[i] k17 j hjt _ (by simp))) ?_
      refine ow_y (y_assign rfl) ?_
      refine ow_nil ?_
      have hjl : j < ss[i].data.toList.length := by omega
      rw [show ss[i].data.toList[j] = ss[i].data.toList[j]'hjl from rfl]
      generalize hx0 : Crc.run (Crc.run (~~~ 0#32) (bytesOf (ss.take i))) (ss[i].data.toList.take j) = x0
      generalize hc0 : ss[i].data.toList[j]'hjl = c0
      refine kw_code (fun _ _ h => h) ?_
      refine cw_seq ?_
      refine cw_region ?_
      refine ow_y (y_move rfl) ?_
      refine ow_y (y_move rfl) ?_
      refine ow_y (y_conv F.ts5 F.in24 rfl) ?_
      refine ow_y (y_xor rfl rfl) ?_
      refine ow_y (y_assign rfl) ?_
      refine ow_nil ?_
      rw [byte_u32, xor_u32]
      generalize hx1 : x0 ^^^ c0.toBitVec.setWidth 32 = x1
      refine kw_code (fun _ _ h => h) ?_
      refine cw_seq ?_
      have h15 := and15_lt x1
      refine cw_region ?_
      refine ow_y (y_move rfl) ?_
      refine ow_y (y_shr rfl rfl (by first | decide | (simp only [IntKind.bits]; omega))) ?_
      refine ow_y (y_move rfl) ?_
      refine ow_y (y_and rfl rfl) ?_
      rw [and15]
      refine ow_y (y_ixa F.ar60 rfl rfl (by omega)) ?_
      refine ow_y (y_load F.sc24 rfl (tab_at x1 _ (by simp))) ?_
      refine ow_y (y_xor rfl rfl) ?_
      refine ow_y (y_assign rfl) ?_
      refine ow_nil ?_
      rw [shr4, xor_u32]
      generalize hx2 : (x1 >>> 4 ^^^ Crc.tab (x1 &&& 15#32)) = x2
      refine kw_code (fun _ _ h => h) ?_
      have h152 := and15_lt x2
      refine cw_region ?_
      refine ow_y (y_move rfl) ?_
      refine ow_y (y_shr rfl rfl (by first | decide | (simp only [IntKind.bits]; omega))) ?_
      refine ow_y (y_move rfl) ?_
      refine ow_y (y_and rfl rfl) ?_
      rw [and15]
      refine ow_y (y_ixa F.ar60 rfl rfl (by omega)) ?_
      refine ow_y (y_load F.sc24 rfl (tab_at x2 _ (by simp))) ?_
      refine ow_y (y_xor rfl rfl) ?_
      refine ow_y (y_assign rfl) ?_
      refine ow_nil ?_
      rw [shr4, xor_u32]
      have hfin : x2 >>> 4 ^^^ Crc.tab (x2 &&& 15#32) = Crc.run (Crc.run (~~~ 0#32) (bytesOf (ss.take i))) (ss[i].data.toList.take (j + 1)) := by
        rw [run_take _ _ _ hjl, hx0, hc0, Crc.byt_nib, hx1]; unfold Crc.nib; rw [hx2]
      rw [hfin]
      refine kw_code (fun _ _ h => h) ?_
      refine cw_region ?_
      refine ow_y (y_addI rfl rfl (by omega)) ?_
      refine ow_y (y_move rfl) ?_
      refine ow_nil ?_
      refine kw_rnd (fun _ _ h => h) (⟨j + 1, hjt⟩) (by first | omega | (simp only; omega)) (by repeat (first | exact Sub.nil | refine Sub.cons rfl ?_)) (by repeat (first | exact Split.nil | apply Split.cons (by repeat (first | exact Fnd.here | apply Fnd.there))))
    · skip
      have hje : j = ss[i].size := by have := of_decide_eq_false hb20; omega
      have hrun : Crc.run (Crc.run (~~~ 0#32) (bytesOf (ss.take i))) (ss[i].data.toList.take j) = Crc.run (~~~ 0#32) (bytesOf (ss.take (i + 1))) := by
        have htk : ss[i].data.toList.take j = ss[i].data.toList := List.take_of_length_le (by rw [hsl]; omega)
        rw [bytesOf_take ss i hlt, Crc.run_append, htk]
      rw [hrun]
      refine cw_exit ?_
      refine kw_code (fun _ _ h => h) ?_
      refine cw_region ?_
      refine ow_y (y_addI rfl rfl (by omega)) ?_
      refine ow_y (y_move rfl) ?_
      refine ow_nil ?_
      refine kw_rnd (fun _ _ h => h) (⟨i + 1, hlt⟩) (by first | omega | (simp only; omega)) (by repeat (first | exact Sub.nil | refine Sub.cons rfl ?_)) (by repeat (first | exact Split.nil | apply Split.cons (by repeat (first | exact Fnd.here | apply Fnd.there))))
  · skip
    have hie : i = ss.length := by have := of_decide_eq_false hb13; omega
    rw [List.take_of_length_le (by omega)]
    refine cw_exit ?_
    refine kw_code (fun _ _ h => h) ?_
    refine cw_seq ?_
    refine cw_region ?_
    refine ow_y (y_move rfl) ?_
    refine ow_y (y_inv rfl) ?_
    refine ow_y (y_assign rfl) ?_
    refine ow_nil ?_
    refine kw_code (fun _ _ h => h) ?_
    refine cw_retG (fun _ _ h => h) rfl (by rw [inv_u32]; rfl) (by repeat (first | exact Split.nil | apply Split.cons (by repeat (first | exact Fnd.here | apply Fnd.there))))
end Go.Proofs.Ytofffddcbjkdcaa
