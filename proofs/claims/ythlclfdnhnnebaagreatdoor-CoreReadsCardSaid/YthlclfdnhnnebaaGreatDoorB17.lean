/- Part of the proof; no statement of its own: C2, C3, E1, A1, M4. -/
import Derived.Test.YthlclfdnhnnebaaGreatDoorB07
import Derived.Test.YthlclfdnhnnebaaGreatDoorB08
import Derived.Test.YthlclfdnhnnebaaGreatDoorB06
import Derived.Test.YthlclfdnhnnebaaGreatDoorB16
import Derived.Test.YthlclfdnhnnebaaGreatDoorB04
import Derived.Test.YthlclfdnhnnebaaGreatDoorB10
set_option linter.all false
section
set_option maxRecDepth 4000
set_option maxHeartbeats 4000000
namespace Go.Proofs.YthlclfdnhnnebaaGreatDoor
open Go.Sl
theorem inv_u32 (x : BitVec 32) : bits .xor .u32 (if IntKind.u32.signed then -1 else IntKind.u32.max) (x.toNat : Int) = ((~~~ x).toNat : Int) := by
  have h : (if IntKind.u32.signed then -1 else IntKind.u32.max) = ((BitVec.allOnes 32).toNat : Int) := by decide
  rw [h, xor_u32]
  have e : BitVec.allOnes 32 ^^^ x = ~~~ x := by rw [BitVec.xor_comm]; exact BitVec.xor_allOnes
  rw [e]
theorem shr4 (x : BitVec 32) : ((x.toNat : Int) / (2 : Int) ^ Int.toNat 4) = ((x >>> 4).toNat : Int) := by simp [Nat.shiftRight_eq_div_pow]
theorem byte_u32 (c : UInt8) : IntKind.u32.wrap (c.toNat : Int) = ((c.toBitVec.setWidth 32).toNat : Int) := by
  rw [IntKind.wrap_u32, BitVec.toNat_setWidth]
  have h := c.toNat_lt
  have e : c.toBitVec.toNat = c.toNat := rfl
  rw [e]; omega
theorem tab_at (y : BitVec 32) (i : Nat) (hi : i = (y &&& 15#32).toNat) : nth (tabL 16) i = some (.int .u32 ((Crc.tab (y &&& 15#32)).toNat : Int)) := by
  subst hi
  have h : (y &&& 15#32).toNat < 16 := by rw [BitVec.toNat_and]; exact Nat.lt_of_le_of_lt Nat.and_le_right (by decide)
  rw [nth_eq]
  simp only [tabL, List.getElem?_map, List.getElem?_range h, Option.map_some, if_pos h, tabF, Crc.tab, BitVec.ofNat_toNat, BitVec.setWidth_eq]
theorem and15 (y : BitVec 32) : bits .and .u32 (y.toNat : Int) 15 = ((y &&& 15#32).toNat : Int) := and_u32 y 15#32
theorem and15_lt (y : BitVec 32) : 0 ≤ ((y &&& 15#32).toNat : Int) ∧ ((y &&& 15#32).toNat : Int) < 16 := by
  have h : (y &&& 15#32).toNat < 16 := by rw [BitVec.toNat_and]; exact Nat.lt_of_le_of_lt Nat.and_le_right (by decide)
  omega
theorem bytes_at (s : ByteArray) (cap i : Nat) (h : i < s.size) (k : Nat) (hk : k = i) : nth (bytesL s cap) k = some (byteV (s.data.toList[i]'(by simpa using h))) := by
  subst hk
  have hl : k < (s.data.toList.map byteV).length := by simpa using h
  rw [nth_eq, bytesL, List.getElem?_append_left hl, List.getElem?_eq_getElem hl, List.getElem_map]
def bytesOf (ss : List ByteArray) : List UInt8 := ss.flatMap fun s => s.data.toList
theorem bytesOf_take (ss : List ByteArray) (i : Nat) (h : i < ss.length) : bytesOf (ss.take (i + 1)) = bytesOf (ss.take i) ++ ss[i].data.toList := by
  simp only [bytesOf]
  rw [List.take_succ, List.getElem?_eq_getElem h, List.flatMap_append]; simp
theorem run_take (x : BitVec 32) (l : List UInt8) (i : Nat) (h : i < l.length) : Crc.run x (l.take (i + 1)) = Crc.byt (Crc.run x (l.take i)) l[i] := by
  rw [List.take_succ, List.getElem?_eq_getElem h, Crc.run_append]; simp [Crc.run]
theorem sumA_spec (p : Option Addr) (cap : Nat) (ss : List ByteArray) (A : Asrt) (hn : ss.length ≤ maxLen) (hs : ∀ s ∈ ss, s.size ≤ maxLen)
    (hA : ∀ i (h : i < ss.length), ∃ a, p = some a ∧ ∀ (w : World) L, Sat w (A :: L) → w.cell? (a.add i) = some (.string ss[i])) :
    Does Tryz.prog 137 #[.slice p ss.length cap] [A] (Gives (.int .u32 ((Crc.crc (bytesOf ss)).toNat : Int)) [A]) := by
  simp only [maxLen] at hn
  refine does_enter Tryz.func137 rfl Tryz.ntmps137 rfl (fun R w0 => ?_)
  simp only [envOf, List.cons_append, List.nil_append]
  refine cw_seq ?_
  refine cw_region ?_
  refine ow_y (y_assign rfl) ?_
  refine ow_nil ?_
  refine kw_code (fun _ _ h => h) ?_
  refine cw_seq ?_
  refine cw_region ?_
  refine ow_gives rfl F.hb182 rfl (table_spec) aSp ?_
  try simp only [List.cons_append, List.nil_append]
  refine (ow_alloc F.z248 (fun b3 => ?_))
  refine ow_storeAgg F.sz248 rfl rfl (by simp [tabL]) (fun x hx => tabL_one _ x (by simpa using hx)) (by simp [tabL, Value.cells]) (splice_all (by simp [tabL, Value.cells])) ?_
  refine ow_nil ?_
  refine kw_code (fun _ _ h => h) ?_
  refine cw_seq ?_
  refine cw_region ?_
  refine ow_y (y_assign rfl) ?_
  refine ow_nil ?_
  refine kw_code (fun _ _ h => h) ?_
  refine cw_seq ?_
  refine cw_seq ?_
  refine cw_region ?_
  refine ow_y (y_move rfl) ?_
  refine ow_y (y_len_slice F.sl247 rfl) ?_
  refine ow_y (y_move rfl) ?_
  refine ow_nil ?_
  refine kw_code (fun _ _ h => h) ?_
  refine cw_block ?_
  refine cw_loop (X := {i : Nat // i ≤ ss.length}) (fun x => [(3, .pointer (some ⟨b3, 0, none⟩)), (4, .int .u32 ((Crc.run (~~~ 0#32) (bytesOf (ss.take x.1))).toNat : Int)), (10, .slice p ss.length cap), (11, .int .i64 ss.length), (12, .int .i64 x.1)]) (fun x => [A, R, pts b3 (.cells (tabL 16).toArray 248 (0, 0))]) (fun x => ss.length - x.1) ⟨0, by omega⟩ (by repeat (first | exact Sub.nil | refine Sub.cons rfl ?_)) aSp ?_
  rintro ⟨i, hi⟩ m0 hm0
  try simp only at hm0
  try dsimp only
  skip
  refine cw_seq ?_
  refine cw_region ?_
  refine ow_y (y_lss rfl rfl) ?_
  refine ow_nil ?_
  refine kw_code (fun _ _ h => h) ?_
  refine cw_seq ?_
  refine cw_if rfl (fun hb13 => ?_) (fun hb13 => ?_)
  · skip
    have hlt : i < ss.length := by have := of_decide_eq_true hb13; omega
    obtain ⟨a, rfl, hc⟩ := hA i hlt
    have hsz : ss[i].size ≤ 9223372036854775807 := hs _ (List.getElem_mem hlt)
    have hsl : ss[i].data.toList.length = ss[i].size := by simp
    refine cw_skip ?_
    refine kw_code (fun _ _ h => h) ?_
    refine cw_seq ?_
    refine cw_block ?_
    refine cw_seq ?_
    refine cw_region ?_
    refine ow_y (y_ixsA F.sl247 rfl rfl (by omega)) ?_
    refine ow_y (y_loadP F.sc9 rfl aFd (fun w L h => by simpa using hc w L h)) ?_
    refine ow_y (y_assign rfl) ?_
    refine ow_nil ?_
    refine kw_code (fun _ _ h => h) ?_
    refine cw_seq ?_
    refine cw_region ?_
    refine ow_y (y_move rfl) ?_
    refine ow_bytes F.st9 F.sl74 F.by5 rfl (by simp only [maxLen]; omega) (fun b17 k17 hk17 hm17 => ?_)
    refine ow_y (y_len_slice F.sl74 rfl) ?_
    refine ow_y (y_move rfl) ?_
    refine ow_nil ?_
    refine kw_code (fun _ _ h => h) ?_
    refine cw_block ?_
    refine cw_loop (X := {j : Nat // j ≤ ss[i].size}) (fun x => [(3, .pointer (some ⟨b3, 0, none⟩)), (4, .int .u32 ((Crc.run (Crc.run (~~~ 0#32) (bytesOf (ss.take i))) (ss[i].data.toList.take x.1)).toNat : Int)), (10, .slice (some a) ss.length cap), (11, .int .i64 ss.length), (12, .int .i64 i), (17, .slice (some ⟨b17, 0, none⟩) ss[i].size k17), (18, .int .i64 ss[i].size), (19, .int .i64 x.1)]) (fun x => [A, R, pts b3 (.cells (tabL 16).toArray 248 (0, 0)), pts b17 (.cells (bytesL ss[i] k17).toArray 5 (k17, k17 + 1))]) (fun x => ss[i].size - x.1) ⟨0, by omega⟩ (by repeat (first | exact Sub.nil | refine Sub.cons rfl ?_)) aSp ?_
    rintro ⟨j, hj⟩ m2 hm2
    try simp only at hm2
    try dsimp only
    skip
    refine cw_seq ?_
    refine cw_region ?_
    refine ow_y (y_lss rfl rfl) ?_
    refine ow_nil ?_
    refine kw_code (fun _ _ h => h) ?_
    refine cw_seq ?_
    refine cw_if rfl (fun hb20 => ?_) (fun hb20 => ?_)
    · skip
      have hjt : j < ss[i].size := by have := of_decide_eq_true hb20; omega
      refine cw_skip ?_
      refine kw_code (fun _ _ h => h) ?_
      refine cw_seq ?_
      refine cw_block ?_
      refine cw_seq ?_
      refine cw_region ?_
      refine ow_y (y_ixs F.sl74 rfl rfl (by omega)) ?_
      refine ow_y (y_load F.sc5 rfl (bytes_at ss[i] k17 j hjt _ (by simp))) ?_
      refine ow_y (y_assign rfl) ?_
      refine ow_nil ?_
      have hjl : j < ss[i].data.toList.length := by omega
      rw [show ss[i].data.toList[j] = ss[i].data.toList[j]'hjl from rfl]
      generalize hx0 : Crc.run (Crc.run (~~~ 0#32) (bytesOf (ss.take i))) (ss[i].data.toList.take j) = x0
      generalize hc0 : ss[i].data.toList[j]'hjl = c0
      refine kw_code (fun _ _ h => h) ?_
      refine cw_seq ?_
      refine cw_region ?_
      refine ow_y (y_move rfl) ?_
      refine ow_y (y_move rfl) ?_
      refine ow_y (y_conv F.ts5 F.in26 rfl) ?_
      refine ow_y (y_xor rfl rfl) ?_
      refine ow_y (y_assign rfl) ?_
      refine ow_nil ?_
      rw [byte_u32, xor_u32]
      generalize hx1 : x0 ^^^ c0.toBitVec.setWidth 32 = x1
      refine kw_code (fun _ _ h => h) ?_
      refine cw_seq ?_
      have h15 := and15_lt x1
      refine cw_region ?_
      refine ow_y (y_move rfl) ?_
      refine ow_y (y_shr rfl rfl (by first | decide | (simp only [IntKind.bits]; omega))) ?_
      refine ow_y (y_move rfl) ?_
      refine ow_y (y_and rfl rfl) ?_
      rw [and15]
      refine ow_y (y_ixa F.ar248 rfl rfl (by omega)) ?_
      refine ow_y (y_load F.sc26 rfl (tab_at x1 _ (by simp))) ?_
      refine ow_y (y_xor rfl rfl) ?_
      refine ow_y (y_assign rfl) ?_
      refine ow_nil ?_
      rw [shr4, xor_u32]
      generalize hx2 : (x1 >>> 4 ^^^ Crc.tab (x1 &&& 15#32)) = x2
      refine kw_code (fun _ _ h => h) ?_
      have h152 := and15_lt x2
      refine cw_region ?_
      refine ow_y (y_move rfl) ?_
      refine ow_y (y_shr rfl rfl (by first | decide | (simp only [IntKind.bits]; omega))) ?_
      refine ow_y (y_move rfl) ?_
      refine ow_y (y_and rfl rfl) ?_
      rw [and15]
      refine ow_y (y_ixa F.ar248 rfl rfl (by omega)) ?_
      refine ow_y (y_load F.sc26 rfl (tab_at x2 _ (by simp))) ?_
      refine ow_y (y_xor rfl rfl) ?_
      refine ow_y (y_assign rfl) ?_
      refine ow_nil ?_
      rw [shr4, xor_u32]
      have hfin : x2 >>> 4 ^^^ Crc.tab (x2 &&& 15#32) = Crc.run (Crc.run (~~~ 0#32) (bytesOf (ss.take i))) (ss[i].data.toList.take (j + 1)) := by
        rw [run_take _ _ _ hjl, hx0, hc0, Crc.byt_nib, hx1]; unfold Crc.nib; rw [hx2]
      rw [hfin]
      refine kw_code (fun _ _ h => h) ?_
      refine cw_region ?_
      refine ow_y (y_addI rfl rfl (by omega)) ?_
      refine ow_y (y_move rfl) ?_
      refine ow_nil ?_
      refine kw_rnd (fun _ _ h => h) (⟨j + 1, hjt⟩) (by first | omega | (simp only; omega)) (by repeat (first | exact Sub.nil | refine Sub.cons rfl ?_)) aSp
    · skip
      have hje : j = ss[i].size := by have := of_decide_eq_false hb20; omega
      have hrun : Crc.run (Crc.run (~~~ 0#32) (bytesOf (ss.take i))) (ss[i].data.toList.take j) = Crc.run (~~~ 0#32) (bytesOf (ss.take (i + 1))) := by
        have htk : ss[i].data.toList.take j = ss[i].data.toList := List.take_of_length_le (by rw [hsl]; omega)
        rw [bytesOf_take ss i hlt, Crc.run_append, htk]
      rw [hrun]
      refine cw_exit ?_
      refine kw_code (fun _ _ h => h) ?_
      refine cw_region ?_
      refine ow_y (y_addI rfl rfl (by omega)) ?_
      refine ow_y (y_move rfl) ?_
      refine ow_nil ?_
      refine kw_rnd (fun _ _ h => h) (⟨i + 1, hlt⟩) (by first | omega | (simp only; omega)) (by repeat (first | exact Sub.nil | refine Sub.cons rfl ?_)) aSp
  · skip
    have hie : i = ss.length := by have := of_decide_eq_false hb13; omega
    rw [List.take_of_length_le (by omega)]
    refine cw_exit ?_
    refine kw_code (fun _ _ h => h) ?_
    refine cw_seq ?_
    refine cw_region ?_
    refine ow_y (y_move rfl) ?_
    refine ow_y (y_inv rfl) ?_
    refine ow_y (y_assign rfl) ?_
    refine ow_nil ?_
    refine kw_code (fun _ _ h => h) ?_
    refine cw_retG (fun _ _ h => h) rfl (by rw [inv_u32]; rfl) aSp
end Go.Proofs.YthlclfdnhnnebaaGreatDoor
end
section
set_option maxRecDepth 4000
set_option maxHeartbeats 4000000
namespace Go.Proofs.YthlclfdnhnnebaaGreatDoor
open Go.Sl
theorem sum_spec (b cap : Nat) (ss : List ByteArray) (hn : ss.length ≤ maxLen) (hs : ∀ s ∈ ss, s.size ≤ maxLen) :
    Does Tryz.prog 137 #[.slice (some ⟨b, 0, none⟩) ss.length cap] [pts b (.cells (ss.map Value.string).toArray 9 (0, 0))] (Gives (.int .u32 ((Crc.crc (bytesOf ss)).toNat : Int)) []) := by
  refine Does.weak (sumA_spec _ cap ss _ hn hs (fun i h => ⟨_, rfl, fun w L hsat => ?_⟩))
  have hb := hsat.pts
  simp [World.cell?, addr_add, hb, h]
theorem sum1_spec (b cap : Nat) (s : ByteArray) (hs : s.size ≤ maxLen) :
    Does Tryz.prog 137 #[.slice (some ⟨b, 0, none⟩) 1 cap] [pts b (.cells #[.string s] 9 (0, 0))] (Gives (.int .u32 ((Crc.crc s.data.toList).toNat : Int)) []) := by
  have := sum_spec b cap [s] (by simp [maxLen]) (by simpa using hs)
  simpa [bytesOf] using this
end Go.Proofs.YthlclfdnhnnebaaGreatDoor
end
section
set_option maxRecDepth 4000
set_option maxHeartbeats 4000000
namespace Go.Proofs.YthlclfdnhnnebaaGreatDoor
open Go.Sl Go.Sb
def itext (n : Nat) (l : B) : Out B × B := if l.length < n then (.err 2, l) else (.ok (l.take n), l.drop n)
def inum (k : Nat) (l : B) : Out Nat × B := if l.length < k then (.err 2, l) else (.ok (be (l.take k)), l.drop k)
def idone (l : B) : Out Unit × B := if l = [] then (.ok (), []) else (.err 1, l)
def izero (l : B) : Out Unit × B := if allZero l then (.ok (), []) else (.err 1, l)
def u64V (n : Nat) : Value := .int .u64 n
theorem itext_err {n : Nat} {l : B} {e : Int} {t : B} (h : itext n l = (.err e, t)) : l.length < n ∧ e = 2 := by
  unfold itext at h; split at h
  · rename_i h'; cases h; exact ⟨h', rfl⟩
  · cases h
theorem itext_ok {n : Nat} {l a t : B} (h : itext n l = (.ok a, t)) : n ≤ l.length ∧ a = l.take n ∧ t = l.drop n := by
  unfold itext at h; split at h
  · cases h
  · rename_i h'; cases h; exact ⟨by omega, rfl, rfl⟩
theorem inum_err {n : Nat} {l : B} {e : Int} {t : B} (h : inum n l = (.err e, t)) : l.length < n ∧ e = 2 := by
  unfold inum at h; split at h
  · rename_i h'; cases h; exact ⟨h', rfl⟩
  · cases h
theorem inum_ok {n : Nat} {l t : B} {a : Nat} (h : inum n l = (.ok a, t)) : n ≤ l.length ∧ a = be (l.take n) ∧ t = l.drop n := by
  unfold inum at h; split at h
  · cases h
  · rename_i h'; cases h; exact ⟨by omega, rfl, rfl⟩
theorem idone_err {l : B} {e : Int} {t : B} (h : idone l = (.err e, t)) : l ≠ [] ∧ e = 1 := by
  unfold idone at h; split at h
  · cases h
  · rename_i h'; cases h; exact ⟨h', rfl⟩
theorem idone_ok {l t : B} {x : Unit} (h : idone l = (.ok x, t)) : l = [] := by
  unfold idone at h; split at h
  · assumption
  · cases h
theorem izero_err {l : B} {e : Int} {t : B} (h : izero l = (.err e, t)) : allZero l = false ∧ e = 1 := by
  unfold izero at h; split at h
  · cases h
  · rename_i h'; cases h; exact ⟨by simpa using h', rfl⟩
theorem izero_ok {l t : B} {x : Unit} (h : izero l = (.ok x, t)) : allZero l = true := by
  unfold izero at h; split at h
  · assumption
  · cases h
theorem itext_spec (b : Nat) (l : B) (n : Nat) (hs : l.length ≤ 1000000) : Does Tryz.prog 156 #[ptr b, .int .i64 n] [pinL b l] (Ran fT (fun l => [pinL b l]) strV (itext n l)) := by
  unfold itext
  split
  · rename_i h; exact text_end b (bs l) n (by rw [bs_size]; exact h) (by rw [bs_size]; exact hs)
  · rename_i h; exact textL_ok b l n (by omega) hs
theorem inum_spec (b : Nat) (l : B) (k : Nat) (hk : 1 ≤ k ∧ k ≤ 8) (hs : l.length ≤ 1000000) : Does Tryz.prog 155 #[ptr b, .int .i64 k] [pinL b l] (Ran fT (fun l => [pinL b l]) u64V (inum k l)) := by
  unfold inum
  split
  · rename_i h; exact numL_end b l k hk h hs
  · rename_i h; exact numL_ok b l k hk (by omega) hs
theorem dropW_nil {α : Type} {p : α → Bool} : ∀ {l : List α}, l.dropWhile p = [] ↔ ∀ x ∈ l, p x = true
  | [] => by simp
  | x :: l => by
    rw [List.dropWhile_cons]
    split
    · rename_i h; rw [dropW_nil (l := l)]; simp [h]
    · rename_i h; simp [h]
theorem takeW_mem {α : Type} {p : α → Bool} {x : α} : ∀ {l : List α}, x ∈ l.takeWhile p → p x = true
  | [], h => by simp at h
  | y :: l, h => by
    rw [List.takeWhile_cons] at h
    split at h
    · rename_i hy
      rcases List.mem_cons.1 h with rfl | h
      · exact hy
      · exact takeW_mem h
    · simp at h
theorem trim_nil (l : B) : Lib.trimB l 0 = [] ↔ allZero l = true := by
  unfold Lib.trimB Lib.trimLeftB Lib.trimRightB allZero
  rw [dropW_nil]
  constructor
  · intro h
    refine List.all_eq_true.2 fun x hx => ?_
    by_cases hx0 : x = 0
    · simp [hx0]
    · exfalso
      have hm : x ∈ (l.reverse.dropWhile (· == 0)).reverse := by
        rw [List.mem_reverse]
        have h1 : x ∈ l.reverse := List.mem_reverse.2 hx
        rw [← List.takeWhile_append_dropWhile (p := (· == 0)) (l := l.reverse)] at h1
        rcases List.mem_append.1 h1 with h2 | h2
        · have := takeW_mem h2
          simp at this; exact (hx0 this).elim
        · exact h2
      have := h x hm
      simp at this; exact hx0 this
  · intro h x hx
    have h1 := List.mem_reverse.1 hx
    have h2 := (List.dropWhile_sublist _).mem h1
    exact (List.all_eq_true.1 h) x (List.mem_reverse.1 h2)
theorem trim0 (l : B) (h : l.length ≤ 1000000) : Does Tryz.prog 203 #[strV l, .string ⟨#[0]⟩] [] (Gives (strV (Lib.trimB l 0)) []) := by
  refine does_drew fun w => ?_
  have h := Tryz.strings_Trim_one (bs l) 0 (by decide) w (by rw [bs_size]; omega)
  rw [bs_list] at h
  exact h
theorem bs_toList (l : B) : (bs l).toList = l := by rw [ByteArray.toList_eq]
theorem trim_eq (l : B) : ((bs (Lib.trimB l 0)).toList == (⟨#[]⟩ : ByteArray).toList) = allZero l := by
  rw [show (⟨#[]⟩ : ByteArray) = bs [] from rfl, bs_toList, bs_toList, Bool.eq_iff_iff, beq_iff_eq]; exact trim_nil l
theorem zero_spec (l : B) (h : l.length ≤ 1000000) : Does Tryz.prog 172 #[strV l] [] (Gives (.bool (allZero l)) []) := by
  refine does_enter Tryz.func172 rfl Tryz.ntmps172 rfl (fun R w0 => ?_)
  simp only [envOf, List.cons_append, List.nil_append]
  refine cw_seq ?_
  refine cw_region ?_
  refine ow_y (y_assign rfl) ?_
  refine ow_nil ?_
  refine kw_code (fun _ _ h => h) ?_
  refine cw_seq ?_
  refine cw_region ?_
  refine ow_y (y_move rfl) ?_
  refine ow_gives rfl F.hb203 rfl (trim0 l h) aSp ?_
  try simp only [List.cons_append, List.nil_append]
  refine ow_y (y_str_eql rfl rfl) ?_
  refine ow_y (y_assign rfl) ?_
  refine ow_nil ?_
  rw [trim_eq]
  refine kw_code (fun _ _ h => h) ?_
  refine cw_retG (fun _ _ h => h) rfl rfl aSp
theorem izero_spec (b : Nat) (l : B) (h : l.length ≤ 1000000) : Does Tryz.prog 215 #[ptr b] [pinL b l] (Ran fT (fun l => [pinL b l]) unitV (izero l)) := by
  unfold izero
  by_cases h0 : allZero l = true
  · rw [if_pos h0]
    refine does_enter Tryz.func215 rfl Tryz.ntmps215 rfl (fun R w0 => ?_)
    simp only [envOf, List.cons_append, List.nil_append]
    refine cw_seq ?_
    refine cw_seq ?_
    refine cw_region ?_
    refine ow_y (y_move rfl) ?_
    refine ow_y (y_nil rfl) ?_
    refine ow_y (y_fld F.fld262_0 rfl) ?_
    refine ow_y (y_load F.sc9 rfl (by rfl)) ?_
    refine ow_gives rfl F.hb203 rfl (trim0 l h) aSp ?_
    try simp only [List.cons_append, List.nil_append]
    refine ow_y (y_str_neq rfl rfl) ?_
    refine ow_nil ?_
    refine kw_code (fun _ _ h => h) ?_
    refine cw_false rfl (by rw [trim_eq, h0]; rfl) ?_
    refine cw_skip ?_
    refine kw_code (fun _ _ h => h) ?_
    refine cw_region ?_
    refine ow_y (y_move rfl) ?_
    refine ow_y (y_nil rfl) ?_
    refine ow_y (y_fld F.fld262_0 rfl) ?_
    refine (ow_store F.sz9 rfl rfl (by first | rfl | assumption) (by rfl) (by (try simp only [List.set_cons_zero, List.set_cons_succ, Nat.reduceAdd, Nat.reduceMul, Int.reduceToNat, Nat.zero_add, Nat.add_zero]); rfl) ?_)
    refine ow_nil ?_
    refine kw_finG rfl rfl aSp
  · rw [if_neg h0]
    refine does_enter Tryz.func215 rfl Tryz.ntmps215 rfl (fun R w0 => ?_)
    simp only [envOf, List.cons_append, List.nil_append]
    refine cw_seq ?_
    refine cw_seq ?_
    refine cw_region ?_
    refine ow_y (y_move rfl) ?_
    refine ow_y (y_nil rfl) ?_
    refine ow_y (y_fld F.fld262_0 rfl) ?_
    refine ow_y (y_load F.sc9 rfl (by rfl)) ?_
    refine ow_gives rfl F.hb203 rfl (trim0 l h) aSp ?_
    try simp only [List.cons_append, List.nil_append]
    refine ow_y (y_str_neq rfl rfl) ?_
    refine ow_nil ?_
    refine kw_code (fun _ _ h => h) ?_
    refine cw_true rfl (by rw [trim_eq]; simp [h0]) ?_
    refine cw_region ?_
    refine ow_fails rfl F.hb29 rfl (fail_spec 1) aSp ?_
    simp only [List.cons_append, List.nil_append]
    repeat (first | with_reducible refine kw_inBlock_panic ?_ | with_reducible refine kw_then_panic ?_)
    refine kw_panic (fun _ _ h => h) (Split.back aSp) ⟨rfl, rfl⟩
theorem idone_spec (b : Nat) (l : B) : Does Tryz.prog 214 #[ptr b] [pinL b l] (Ran fT (fun l => [pinL b l]) unitV (idone l)) := by
  unfold idone
  by_cases h0 : l = []
  · rw [if_pos h0]; subst h0
    refine does_enter Tryz.func214 rfl Tryz.ntmps214 rfl (fun R w0 => ?_)
    simp only [envOf, List.cons_append, List.nil_append]
    refine cw_seq ?_
    refine cw_region ?_
    refine ow_y (y_move rfl) ?_
    refine ow_y (y_nil rfl) ?_
    refine ow_y (y_fld F.fld262_0 rfl) ?_
    refine ow_y (y_load F.sc9 rfl (by rfl)) ?_
    refine ow_y (y_str_neq rfl rfl) ?_
    refine ow_nil ?_
    refine kw_code (fun _ _ h => h) ?_
    refine cw_false rfl (by rw [show (⟨#[]⟩ : ByteArray) = bs [] from rfl, bs_toList]; rfl) ?_
    refine cw_skip ?_
    refine kw_finG rfl rfl aSp
  · rw [if_neg h0]
    refine does_enter Tryz.func214 rfl Tryz.ntmps214 rfl (fun R w0 => ?_)
    simp only [envOf, List.cons_append, List.nil_append]
    refine cw_seq ?_
    refine cw_region ?_
    refine ow_y (y_move rfl) ?_
    refine ow_y (y_nil rfl) ?_
    refine ow_y (y_fld F.fld262_0 rfl) ?_
    refine ow_y (y_load F.sc9 rfl (by rfl)) ?_
    refine ow_y (y_str_neq rfl rfl) ?_
    refine ow_nil ?_
    refine kw_code (fun _ _ h => h) ?_
    refine cw_true rfl (by rw [show (⟨#[]⟩ : ByteArray) = bs [] from rfl, bs_toList, bs_toList]; simp [h0]) ?_
    refine cw_region ?_
    refine ow_fails rfl F.hb29 rfl (fail_spec 1) aSp ?_
    simp only [List.cons_append, List.nil_append]
    repeat (first | with_reducible refine kw_inBlock_panic ?_ | with_reducible refine kw_then_panic ?_)
    refine kw_panic (fun _ _ h => h) (Split.back aSp) ⟨rfl, rfl⟩
end Go.Proofs.YthlclfdnhnnebaaGreatDoor
end
section
set_option maxRecDepth 4000
set_option maxHeartbeats 4000000
namespace Go.Proofs.YthlclfdnhnnebaaGreatDoor
open Go.Sl Go.Sb
theorem stext_spec (l : B) (h : l.length = 32) : Does Tryz.prog 99 #[sumV l] [] (Gives (strV l) []) := by
  unfold sumV
  refine does_enter Tryz.func99 rfl Tryz.ntmps99 rfl (fun R w0 => ?_)
  simp only [envOf, List.cons_append, List.nil_append]
  refine cw_seq ?_
  refine cw_region ?_
  refine (ow_box rfl (fun b1 => ?_))
  refine ow_y (y_assign rfl) ?_
  refine ow_nil ?_
  refine kw_code (fun _ _ h => h) ?_
  refine cw_seq ?_
  refine cw_region ?_
  refine ow_y (y_sliceArr F.ar175 rfl) ?_
  refine ow_y (y_text F.sl74 F.st9 F.by5 rfl (l := l) h (by simp [Value.cells]; exact List.take_of_length_le (by simp [h]))) ?_
  refine ow_y (y_assign rfl) ?_
  refine ow_nil ?_
  refine kw_code (fun _ _ h => h) ?_
  refine cw_retG (fun _ _ h => h) rfl rfl aSp
end Go.Proofs.YthlclfdnhnnebaaGreatDoor
end
section
namespace Go.Sb
section
variable {K V : Type} [DecidableEq K]
def mok (m : List (K × V)) : Prop := (m.map (·.1)).Nodup
theorem mget_mput (k j : K) (v : V) : ∀ m : List (K × V), mget j (mput k v m) = if k = j then some v else mget j m
  | [] => by simp [mput, mget]
  | (i, u) :: m => by
    by_cases h : i = k
    · subst h
      by_cases h2 : i = j <;> simp [mput, mget, h2]
    · simp only [mput, if_neg h, mget, mget_mput k j v m]
      by_cases h2 : i = j
      · subst h2; simp [Ne.symm h]
      · simp [h2]
theorem mget_none {k : K} : ∀ {m : List (K × V)}, k ∉ m.map (·.1) → mget k m = none
  | [], _ => rfl
  | (i, u) :: m, h => by
    simp only [List.map_cons, List.mem_cons, not_or] at h
    simp [mget, Ne.symm h.1, mget_none h.2]
theorem mget_mdel (k j : K) : ∀ {m : List (K × V)}, mok m → mget j (mdel k m) = if k = j then none else mget j m
  | [], _ => by simp [mdel, mget]
  | (i, u) :: m, h => by
    have h' : i ∉ m.map (·.1) ∧ mok m := by simpa [mok] using h
    by_cases e : i = k
    · subst e
      by_cases h2 : i = j
      · subst h2; simp [mdel, mget_none h'.1]
      · simp [mdel, mget, h2]
    · simp only [mdel, if_neg e, mget, mget_mdel k j h'.2]
      by_cases h2 : i = j
      · subst h2; simp [Ne.symm e]
      · simp [h2]
theorem mput_mem {k x : K} {v : V} : ∀ {m : List (K × V)}, x ∈ (mput k v m).map (·.1) ↔ x = k ∨ x ∈ m.map (·.1)
  | [] => by simp [mput]
  | (i, u) :: m => by
    by_cases e : i = k
    · subst e; simp [mput]
    · simp only [mput, if_neg e, List.map_cons, List.mem_cons, mput_mem (m := m)]
      constructor
      · rintro (h | h | h) <;> simp [h]
      · rintro (h | h | h) <;> simp [h]
theorem mok_mput (k : K) (v : V) : ∀ {m : List (K × V)}, mok m → mok (mput k v m)
  | [], _ => by simp [mput, mok]
  | (i, u) :: m, h => by
    have h' : i ∉ m.map (·.1) ∧ mok m := by simpa [mok] using h
    by_cases e : i = k
    · subst e; simpa [mput, mok] using h
    · simp only [mput, if_neg e, mok, List.map_cons, List.nodup_cons]
      exact ⟨fun hm => by
        rcases mput_mem.1 hm with h2 | h2
        · exact e h2
        · exact h'.1 h2, mok_mput k v h'.2⟩
theorem mdel_mem {k x : K} : ∀ {m : List (K × V)}, x ∈ (mdel k m).map (·.1) → x ∈ m.map (·.1)
  | [], h => h
  | (i, u) :: m, h => by
    by_cases e : i = k
    · subst e; simp only [mdel, if_pos] at h; exact List.mem_cons_of_mem _ h
    · simp only [mdel, if_neg e, List.map_cons, List.mem_cons] at h ⊢
      exact h.imp id mdel_mem
theorem mok_mdel (k : K) : ∀ {m : List (K × V)}, mok m → mok (mdel k m)
  | [], h => h
  | (i, u) :: m, h => by
    have h' : i ∉ m.map (·.1) ∧ mok m := by simpa [mok] using h
    by_cases e : i = k
    · subst e; simpa [mdel] using h'.2
    · simp only [mdel, if_neg e, mok, List.map_cons, List.nodup_cons]
      exact ⟨fun hm => h'.1 (mdel_mem hm), mok_mdel k h'.2⟩
theorem mget_mem {k : K} {v : V} : ∀ {m : List (K × V)}, mok m → (mget k m = some v ↔ (k, v) ∈ m)
  | [], _ => by simp [mget]
  | (i, u) :: m, h => by
    have h' : i ∉ m.map (·.1) ∧ mok m := by simpa [mok] using h
    by_cases e : i = k
    · subst e
      simp only [mget, if_pos, List.mem_cons, Prod.mk.injEq, Option.some.injEq, true_and]
      constructor
      · intro h; exact .inl h.symm
      · rintro (h | h)
        · exact h.symm
        · exact (h'.1 (List.mem_map.2 ⟨_, h, rfl⟩)).elim
    · simp only [mget, if_neg e, mget_mem h'.2, List.mem_cons, Prod.mk.injEq, Ne.symm e, false_and, false_or]
def meq (m n : List (K × V)) : Prop := ∀ k, mget k m = mget k n
theorem meq_perm {m n : List (K × V)} (h1 : mok m) (h2 : mok n) (h : meq m n) : m.Perm n := by
  have d1 : m.Nodup := (List.pairwise_map.1 h1).imp fun {a b} (h : a.1 ≠ b.1) (e : a = b) => h (congrArg Prod.fst e)
  have d2 : n.Nodup := (List.pairwise_map.1 h2).imp fun {a b} (h : a.1 ≠ b.1) (e : a = b) => h (congrArg Prod.fst e)
  refine (List.perm_ext_iff_of_nodup d1 d2).2 fun ⟨k, v⟩ => ?_
  rw [← mget_mem h1, ← mget_mem h2, h k]
theorem meq_put {m n : List (K × V)} (k : K) (v : V) (h : meq m n) : meq (mput k v m) (mput k v n) := fun j => by rw [mget_mput, mget_mput, h j]
theorem meq_del {m n : List (K × V)} (k : K) (h1 : mok m) (h2 : mok n) (h : meq m n) : meq (mdel k m) (mdel k n) := fun j => by rw [mget_mdel k j h1, mget_mdel k j h2, h j]
theorem meq_restore {m n : List (K × V)} (k : K) (w : Option V) (h1 : mok m) (h2 : mok n) (h : meq m n) : meq (restore k w m) (restore k w n) := by
  cases w with
  | none => exact meq_del k h1 h2 h
  | some v => exact meq_put k v h
theorem mok_restore {m : List (K × V)} (k : K) (w : Option V) (h : mok m) : mok (restore k w m) := by
  cases w with
  | none => exact mok_mdel k h
  | some v => exact mok_mput k v h
theorem restore_put {m : List (K × V)} (k : K) (v : V) (h : mok m) : meq (restore k (mget k m) (mput k v m)) m := fun j => by
  cases hk : mget k m with
  | none =>
    simp only [restore, mget_mdel k j (mok_mput k v h), mget_mput]
    by_cases e : k = j
    · subst e; simp [hk]
    · simp [e]
  | some u =>
    simp only [restore, mget_mput]
    by_cases e : k = j
    · subst e; simp [hk]
    · simp [e]
theorem restore_del {m : List (K × V)} (k : K) (h : mok m) : meq (restore k (mget k m) (mdel k m)) m := fun j => by
  cases hk : mget k m with
  | none =>
    simp only [restore, mget_mdel k j (mok_mdel k h), mget_mdel k j h]
    by_cases e : k = j
    · subst e; simp [hk]
    · simp [e]
  | some u =>
    simp only [restore, mget_mput, mget_mdel k j h]
    by_cases e : k = j
    · subst e; simp [hk]
    · simp [e]
end
structure Eqv (s t : St) : Prop where
  fr : s.fr = t.fr
  g : s.g = t.g
  gone : s.gone = t.gone
  keep : s.keep = t.keep
  depth : s.depth = t.depth
  bits : s.bits = t.bits
  next : s.next = t.next
  epoch : s.epoch = t.epoch
  refs : meq s.refs t.refs
  young : meq s.young t.young
  index : meq s.index t.index
  vols : meq s.vols t.vols
structure MOK (s : St) : Prop where
  refs : mok s.refs
  young : mok s.young
  index : mok s.index
  vols : mok s.vols
theorem Eqv.refl (s : St) : Eqv s s := ⟨rfl, rfl, rfl, rfl, rfl, rfl, rfl, rfl, fun _ => rfl, fun _ => rfl, fun _ => rfl, fun _ => rfl⟩
theorem Eqv.trans {s t u : St} (h : Eqv s t) (k : Eqv t u) : Eqv s u :=
  ⟨h.fr.trans k.fr, h.g.trans k.g, h.gone.trans k.gone, h.keep.trans k.keep, h.depth.trans k.depth, h.bits.trans k.bits, h.next.trans k.next, h.epoch.trans k.epoch,
    fun x => (h.refs x).trans (k.refs x), fun x => (h.young x).trans (k.young x), fun x => (h.index x).trans (k.index x), fun x => (h.vols x).trans (k.vols x)⟩
theorem undo1_mok {st : Step} {s : St} (h : MOK s) : MOK (undo1 st s) := by
  cases st <;> first
    | exact ⟨h.refs, h.young, h.index, h.vols⟩
    | exact ⟨mok_restore _ _ h.refs, h.young, h.index, h.vols⟩
    | exact ⟨h.refs, mok_restore _ _ h.young, h.index, h.vols⟩
    | exact ⟨h.refs, h.young, mok_restore _ _ h.index, h.vols⟩
    | exact ⟨h.refs, h.young, h.index, mok_restore _ _ h.vols⟩
theorem undo1_eqv {st : Step} {s t : St} (hs : MOK s) (ht : MOK t) (h : Eqv s t) : Eqv (undo1 st s) (undo1 st t) := by
  obtain ⟨h1, h2, h3, h4, h5, h6, h7, h8, h9, h10, h11, h12⟩ := h
  cases st with
  | give a => exact ⟨h1, by simp only [undo1, h1, h2], h3, h4, h5, h6, h7, h8, h9, h10, h11, h12⟩
  | back a => exact ⟨h1, by simp only [undo1, h1, h2], h3, h4, h5, h6, h7, h8, h9, h10, h11, h12⟩
  | refs k w => exact ⟨h1, h2, h3, h4, h5, h6, h7, h8, meq_restore k w hs.refs ht.refs h9, h10, h11, h12⟩
  | young k w => exact ⟨h1, h2, h3, h4, h5, h6, h7, h8, h9, meq_restore k w hs.young ht.young h10, h11, h12⟩
  | index k w => exact ⟨h1, h2, h3, h4, h5, h6, h7, h8, h9, h10, meq_restore k w hs.index ht.index h11, h12⟩
  | vols k w => exact ⟨h1, h2, h3, h4, h5, h6, h7, h8, h9, h10, h11, meq_restore k w hs.vols ht.vols h12⟩
  | keep w => exact ⟨h1, h2, h3, rfl, h5, h6, h7, h8, h9, h10, h11, h12⟩
  | gone w => exact ⟨h1, h2, rfl, h4, h5, h6, h7, h8, h9, h10, h11, h12⟩
  | next w => exact ⟨h1, h2, h3, h4, h5, h6, rfl, h8, h9, h10, h11, h12⟩
theorem undoL_mok {s : St} (h : MOK s) : ∀ l, MOK (undoL s l)
  | [] => h
  | _ :: l => undo1_mok (undoL_mok h l)
theorem undoL_eqv {s t : St} (hs : MOK s) (ht : MOK t) (h : Eqv s t) : ∀ l, Eqv (undoL s l) (undoL t l)
  | [] => h
  | _ :: l => undo1_eqv (undoL_mok hs l) (undoL_mok ht l) (undoL_eqv hs ht h l)
theorem undoL_app (s : St) (l2 : List Step) : ∀ l1, undoL s (l1 ++ l2) = undoL (undoL s l2) l1
  | [] => rfl
  | x :: l1 => by show undo1 x (undoL s (l1 ++ l2)) = _; rw [undoL_app s l2 l1]; rfl
theorem undoL_d (s : St) : ∀ l, (undoL s l).d = s.d ∧ (undoL s l).log = s.log
  | [] => ⟨rfl, rfl⟩
  | x :: l => by
    have := undoL_d s l
    cases x <;> exact this
def isFree (s : St) (a : Int) : Prop := isB s.fr s.g a 0 = true
def cellAt (d : Dk) (a : Nat) : B := (d.l.getD a ([], [])).2
structure UOK (s : St) : Prop where
  m : MOK s
  keep : 0 ≤ s.keep
  held : ∀ a, mget a s.refs ≠ none → isB s.fr s.g a 1 = true
  run : s.d.armed = false ∧ s.d.dead = false
  size : s.d.l.length = s.fr + s.g.length
  late : s.gone.Nodup ∧ ∀ a ∈ s.gone, isB s.fr s.g a 2 = true
structure Rel (c k : Nat) (s s' : St) : Prop where
  ok : UOK s'
  fr : s'.fr = s.fr
  depth : s'.depth = s.depth
  bits : s'.bits = s.bits
  epoch : s'.epoch = s.epoch
  log : ∃ l, s'.log = s.log ++ l ∧ l.length ≤ c ∧ Eqv (undoL s' l) s
  free : ∀ a, isFree s' a → isFree s a
  disk : ∀ a : Nat, isFree s a ∨ cellAt s'.d a = cellAt s.d a
  room : freeN s ≤ freeN s' + k
  glen : s'.g.length = s.g.length
  gone : s'.gone.length ≤ s.gone.length + c
theorem Rel.refl {s : St} (h : UOK s) : Rel 0 0 s s := ⟨h, rfl, rfl, rfl, rfl, ⟨[], by simp, by simp, Eqv.refl _⟩, fun _ h => h, fun _ => .inr rfl, by omega, rfl, by omega⟩
theorem Rel.trans {c1 k1 c2 k2 : Nat} {s t u : St} (h : Rel c1 k1 s t) (j : Rel c2 k2 t u) : Rel (c1 + c2) (k1 + k2) s u := by
  obtain ⟨l1, e1, n1, q1⟩ := h.log
  obtain ⟨l2, e2, n2, q2⟩ := j.log
  refine ⟨j.ok, j.fr.trans h.fr, j.depth.trans h.depth, j.bits.trans h.bits, j.epoch.trans h.epoch, ⟨l1 ++ l2, by rw [e2, e1, List.append_assoc], by simp; omega, ?_⟩, fun a ha => h.free a (j.free a ha), fun a => ?_, by have := h.room; have := j.room; omega, j.glen.trans h.glen, by have := h.gone; have := j.gone; omega⟩
  · rw [undoL_app]
    exact (undoL_eqv (undoL_mok j.ok.m l2) h.ok.m q2 l1).trans q1
  · rcases j.disk a with h1 | h1
    · exact .inl (h.free a h1)
    · rcases h.disk a with h2 | h2
      · exact .inl h2
      · exact .inr (h1.trans h2)
theorem Rel.mono {c k c' k' : Nat} {s t : St} (h : Rel c k s t) (hc : c ≤ c') (hk : k ≤ k') : Rel c' k' s t := by
  obtain ⟨l, e, n, q⟩ := h.log
  exact ⟨h.ok, h.fr, h.depth, h.bits, h.epoch, ⟨l, e, by omega, q⟩, h.free, h.disk, by have := h.room; omega, h.glen, by have := h.gone; omega⟩
def UM {α : Type} (c k : Nat) (m : M α) : Prop := ∀ s, 0 < s.depth → UOK s → (m s).1 ≠ .big → Rel c k s (m s).2
section
variable {α β : Type} {c k c' k' : Nat}
theorem UM.mono {m : M α} (h : UM c k m) (hc : c ≤ c') (hk : k ≤ k') : UM c' k' m := fun s hd hs hb => (h s hd hs hb).mono hc hk
theorem um_ret (a : α) : UM 0 0 (ret a : M α) := fun _ _ h _ => Rel.refl h
theorem um_then {m : M α} {f : α → M β} (h : UM c k m) (hf : ∀ a, UM c' k' (f a)) : UM (c + c') (k + k') (andThen m f) := fun s hd hs hb => by
  have h1 := h s hd hs (big1 hb)
  cases e : m s with
  | mk o t =>
    rw [e] at h1
    cases o with
    | ok a => have h2 := big2 hb e; rw [andThen_ok e]; exact h1.trans (hf a t (by rw [h1.depth]; exact hd) h1.ok h2)
    | err e' => rw [andThen_err e]; exact h1.mono (by omega) (by omega)
    | big => exact (big1 hb (by rw [e])).elim
theorem um_at {m : St → M α} (h : ∀ s, UM c k (m s)) : UM c k (fun s => m s s) := fun s hd hs hb => h s s hd hs hb
end
end Go.Sb
end
