/- Part of the proof; no statement of its own: A2, A3, A4, A5. -/
import Derived.Test.YthlclfdnhnnebaaGreatDoorB08
import Derived.Test.YthlclfdnhnnebaaGreatDoorB06
import Derived.Test.YthlclfdnhnnebaaGreatDoorB07
import Derived.Test.YthlclfdnhnnebaaGreatDoorB17
import Derived.Test.YthlclfdnhnnebaaGreatDoorB18
set_option linter.all false
section
set_option maxRecDepth 4000
set_option maxHeartbeats 4000000
namespace Go.Proofs.YthlclfdnhnnebaaGreatDoor
open Go.Sl Go.Sb
theorem obytesK_spec (b : Nat) (v : Value) (l : List UInt8) (h1 : v.oneCell' = true) : Does Tryz.prog 110 #[.pointer (some ⟨b, 0, none⟩)] (pout b v l) (Gives (.string (bs l)) (pout b v l)) := by
  refine does_enter Tryz.func110 rfl Tryz.ntmps110 rfl (fun R w0 => ?_)
  simp only [envOf, List.cons_append, List.nil_append]
  refine cw_seq ?_
  refine cw_region ?_
  refine ow_y (y_assign rfl) ?_
  refine ow_nil ?_
  refine kw_code (fun _ _ h => h) ?_
  refine cw_seq ?_
  refine cw_region ?_
  refine ow_y (y_move rfl) ?_
  refine ow_y (y_nil rfl) ?_
  refine ow_y (y_fld F.fld186_0 rfl) ?_
  refine ow_y (y_load F.sc74 rfl (by rfl)) ?_
  refine ow_y (y_textRow F.sl74 F.st9 F.by5 rfl aFd) ?_
  refine ow_y (y_assign rfl) ?_
  refine ow_nil ?_
  refine kw_code (fun _ _ h => h) ?_
  refine cw_retG (fun _ _ h => h) rfl rfl aSp
theorem wrap_u64z (x : Int) : IntKind.u64.wrap x = ((u64 x : Nat) : Int) := by
  simp only [IntKind.wrap, IntKind.bits, IntKind.signed, Bool.false_and, Bool.false_eq_true, if_false, u64]
  omega
theorem u64_lt (x : Int) : u64 x < 18446744073709551616 := by unfold u64; omega
theorem crcN_u32 (b : B) : crcN b < 4294967296 := Nat.lt_of_lt_of_eq (crcN_lt b) (by decide)
def hdL (x : Hd) : List Value := x.at_.map intV ++ ((x.sums.map fun n : Nat => Value.int .u32 n) ++ x.sum.map byteV)
def hdV (x : Hd) : Value := .agg (hdL x).toArray
structure HdLen (x : Hd) : Prop where
  n : x.at_.length = 4
  m : x.sums.length = 4
  sums : ∀ c ∈ x.sums, c < 4294967296
  sum : x.sum.length = 32
theorem flat_take {α : Type} (f : α → B) (l : List α) (i : Nat) (h : i < l.length) : (l.take (i + 1)).flatMap f = (l.take i).flatMap f ++ f l[i] := by
  rw [List.take_succ, List.getElem?_eq_getElem h, List.flatMap_append]; simp
theorem nth_map {α : Type} (f : α → Value) (l : List α) (i k : Nat) (h : i < l.length) (hk : k = i) : nth (l.map f) k = some (f l[i]) := by
  subst hk; rw [nth_eq, List.getElem?_map, List.getElem?_eq_getElem h]; rfl
theorem extract_app {a b c : List Value} {o n : Nat} (ha : a.length = o) (hb : b.length = n) : (a ++ (b ++ c)).toArray.extract o (o + n) = b.toArray := by
  apply Array.ext'
  simp only [Array.toList_extract, List.extract_eq_take_drop]
  rw [List.drop_left' ha, show o + n - o = n by omega, List.take_left' hb]
set_option maxRecDepth 4000 in
theorem hdBytes_spec (x : Hd) (h : HdLen x) : Does Tryz.prog 177 #[hdV x] [] (Gives (strV (hdBytes x)) []) := by
  obtain ⟨hn, hm, hs, hu⟩ := h
  unfold hdV
  have l1 : ∀ i, ((x.at_.take i).flatMap (num · 2)).length ≤ 8 := fun i => by rw [flat_len (k := 2) fun a => num_length a 2]; simp; omega
  have l2 : ∀ i, ((x.sums.take i).flatMap fun s => beB s 4 4).length ≤ 16 := fun i => by rw [flat_len (k := 4) fun a => beB_length a 4 4]; simp; omega
  have c1 : (x.at_.map intV).length = 4 := by simp [hn]
  have c2 : (x.sums.map fun n : Nat => Value.int .u32 n).length = 4 := by simp [hm]
  have c3 : (x.sum.map byteV).length = 32 := by simp [hu]
  refine does_enter Tryz.func177 rfl Tryz.ntmps177 rfl (fun R w0 => ?_)
  simp only [envOf, List.cons_append, List.nil_append]
  refine cw_seq ?_
  refine cw_region ?_
  refine (ow_box rfl (fun b1 => ?_))
  refine ow_y (y_assign rfl) ?_
  refine ow_nil ?_
  refine kw_code (fun _ _ h => h) ?_
  refine cw_seq ?_
  refine cw_region ?_
  refine (ow_alloc F.z186 (fun b3 => ?_))
  refine ow_nil ?_
  refine kw_code (fun _ _ h => h) ?_
  refine cw_seq ?_
  refine cw_said (L' := pout b3 (.slice none 0 0) [] ++ [pts b1 (.cells (hdL x).toArray 213 (0, 0)), R]) (fun w h => (sat_row_nil 5 1 w h).perm (List.Perm.swap _ _ _)) ?_
  simp only [List.cons_append, List.nil_append]
  refine cw_region ?_
  refine ow_givesE rfl F.hb109 rfl (otext_spec b3 (.slice none 0 0) [] ⟨#[69]⟩ (by simp) (by decide) rfl) aSp ?_
  rintro v9 hv9
  try simp only [List.cons_append, List.nil_append]
  refine ow_nil ?_
  refine kw_code (fun _ _ h => h) ?_
  refine cw_seq ?_
  refine cw_seq ?_
  refine cw_region ?_
  refine ow_y (y_fld F.fld213_0 rfl) ?_
  refine ow_y (y_loadAgg F.ag210 rfl (by simp [hdL, c1, c2, c3]) (extract_app (a := []) rfl c1)) ?_
  refine ow_y (y_move rfl) ?_
  refine ow_nil ?_
  refine kw_code (fun _ _ h => h) ?_
  refine cw_block ?_
  refine cw_loop (X := {y : Nat × Value // y.1 ≤ 4 ∧ y.2.oneCell' = true}) (fun y => [(1, ptr b1), (3, ptr b3), (11, .agg (x.at_.map intV).toArray), (12, .int .i64 y.1.1)]) (fun y => pout b3 y.1.2 ([69] ++ (x.at_.take y.1.1).flatMap (num · 2)) ++ [pts b1 (.cells (hdL x).toArray 213 (0, 0)), R]) (fun y => 4 - y.1.1) ⟨(0, v9), by omega, hv9⟩ (by repeat (first | exact Sub.nil | refine Sub.cons rfl ?_)) aSp ?_
  rintro ⟨⟨i, v⟩, hi, hv⟩ m0 hm0
  try simp only at hm0
  try dsimp only
  simp only at hi hv
  simp only [List.cons_append, List.nil_append]
  refine cw_seq ?_
  refine cw_region ?_
  refine ow_y (y_lss rfl rfl) ?_
  refine ow_nil ?_
  refine kw_code (fun _ _ h => h) ?_
  refine cw_seq ?_
  refine cw_if rfl (fun hb13 => ?_) (fun hb13 => ?_)
  · skip
    have hi4 : i < 4 := by have := of_decide_eq_true hb13; omega
    have hil : i < x.at_.length := by omega
    refine cw_skip ?_
    refine kw_code (fun _ _ h => h) ?_
    refine cw_seq ?_
    refine cw_block ?_
    refine cw_seq ?_
    refine cw_region ?_
    refine ow_y (y_ixv F.ar210 F.sc3 rfl rfl (by omega) (nth_map intV x.at_ i _ hil (by omega))) ?_
    refine ow_y (y_assign rfl) ?_
    refine ow_nil ?_
    refine kw_code (fun _ _ h => h) ?_
    refine cw_region ?_
    refine ow_y (y_move rfl) ?_
    refine ow_y (y_conv F.ts3 F.in161 rfl) ?_
    rw [wrap_u64z]
    refine ow_givesE rfl F.hb108 rfl (onum_spec b3 v (69 :: (x.at_.take i).flatMap (num · 2)) (u64 x.at_[i]) 2 (by omega) (by have := l1 i; (try simp only [List.length_cons, List.length_append, List.length_nil]); omega) hv (u64_lt _)) aSp ?_
    rintro v17 hv17
    try simp only [List.cons_append, List.nil_append]
    refine ow_nil ?_
    rw [show (x.at_.take i).flatMap (num · 2) ++ beB (u64 x.at_[i]) 2 2 = (x.at_.take (i + 1)).flatMap (num · 2) from (flat_take (num · 2) x.at_ i hil).symm]
    refine kw_code (fun _ _ h => h) ?_
    refine cw_region ?_
    refine ow_y (y_addI rfl rfl (by omega)) ?_
    refine ow_y (y_move rfl) ?_
    refine ow_nil ?_
    refine kw_rnd (fun _ _ h => h) (⟨(i + 1, v17), hi4, hv17⟩) (by first | omega | (simp only; omega)) (by repeat (first | exact Sub.nil | refine Sub.cons rfl ?_)) aSp
  · skip
    obtain rfl : i = 4 := by have := of_decide_eq_false hb13; omega
    rw [List.take_of_length_le (by omega)]
    have lA := l1 4
    rw [List.take_of_length_le (by omega)] at lA
    generalize hA : x.at_.flatMap (num · 2) = A at lA ⊢
    have l3 : ∀ i, (A ++ (x.sums.take i).flatMap fun s => beB s 4 4).length ≤ 24 := fun i => by have := l2 i; rw [List.length_append]; omega
    refine cw_exit ?_
    refine kw_code (fun _ _ h => h) ?_
    refine cw_seq ?_
    refine cw_seq ?_
    refine cw_region ?_
    refine ow_y (y_fld F.fld213_1 rfl) ?_
    refine ow_y (y_loadAgg F.ag211 rfl (by simp [hdL, c1, c2, c3]) (extract_app c1 c2)) ?_
    refine ow_y (y_move rfl) ?_
    refine ow_nil ?_
    refine kw_code (fun _ _ h => h) ?_
    refine cw_block ?_
    rw [show (69 :: A : B) = 69 :: (A ++ (x.sums.take 0).flatMap (fun s => beB s 4 4)) from by simp]
    refine cw_loop (X := {y : Nat × Value // y.1 ≤ 4 ∧ y.2.oneCell' = true}) (fun y => [(1, ptr b1), (3, ptr b3), (20, .agg (x.sums.map fun n : Nat => Value.int .u32 n).toArray), (21, .int .i64 y.1.1)]) (fun y => pout b3 y.1.2 (69 :: (A ++ (x.sums.take y.1.1).flatMap (fun s => beB s 4 4))) ++ [pts b1 (.cells (hdL x).toArray 213 (0, 0)), R]) (fun y => 4 - y.1.1) ⟨(0, v), by omega, hv⟩ (by repeat (first | exact Sub.nil | refine Sub.cons rfl ?_)) aSp ?_
    rintro ⟨⟨i, v'⟩, hi', hv'⟩ m2 hm2
    try simp only at hm2
    try dsimp only
    simp only at hi' hv'
    simp only [List.cons_append, List.nil_append]
    refine cw_seq ?_
    refine cw_region ?_
    refine ow_y (y_lss rfl rfl) ?_
    refine ow_nil ?_
    refine kw_code (fun _ _ h => h) ?_
    refine cw_seq ?_
    refine cw_if rfl (fun hb22 => ?_) (fun hb22 => ?_)
    · skip
      have hi4 : i < 4 := by have := of_decide_eq_true hb22; omega
      have hil : i < x.sums.length := by omega
      have hsl := hs x.sums[i] (List.getElem_mem hil)
      refine cw_skip ?_
      refine kw_code (fun _ _ h => h) ?_
      refine cw_seq ?_
      refine cw_block ?_
      refine cw_seq ?_
      refine cw_region ?_
      refine ow_y (y_ixv F.ar211 F.sc26 rfl rfl (by omega) (nth_map (fun n : Nat => Value.int .u32 n) x.sums i _ hil (by omega))) ?_
      refine ow_y (y_assign rfl) ?_
      refine ow_nil ?_
      refine kw_code (fun _ _ h => h) ?_
      refine cw_region ?_
      refine ow_y (y_move rfl) ?_
      refine ow_y (y_conv F.ts26 F.in161 rfl) ?_
      rw [wrap_u64 _ _ rfl (by omega)]
      refine ow_givesE rfl F.hb108 rfl (onum_spec b3 v' (69 :: (A ++ (x.sums.take i).flatMap fun s => beB s 4 4)) x.sums[i] 4 (by omega) (by have := l3 i; (try simp only [List.length_cons]); omega) hv' (by omega)) aSp ?_
      rintro v26 hv26
      try simp only [List.cons_append, List.nil_append]
      refine ow_nil ?_
      rw [List.append_assoc, show (x.sums.take i).flatMap (fun s => beB s 4 4) ++ beB x.sums[i] 4 4 = (x.sums.take (i + 1)).flatMap (fun s => beB s 4 4) from (flat_take (fun s => beB s 4 4) x.sums i hil).symm]
      refine kw_code (fun _ _ h => h) ?_
      refine cw_region ?_
      refine ow_y (y_addI rfl rfl (by omega)) ?_
      refine ow_y (y_move rfl) ?_
      refine ow_nil ?_
      refine kw_rnd (fun _ _ h => h) (⟨(i + 1, v26), hi4, hv26⟩) (by first | omega | (simp only; omega)) (by repeat (first | exact Sub.nil | refine Sub.cons rfl ?_)) aSp
    · skip
      obtain rfl : i = 4 := by have := of_decide_eq_false hb22; omega
      rw [List.take_of_length_le (by omega)]
      have lS := l3 4
      rw [List.take_of_length_le (by omega)] at lS
      generalize hS : A ++ x.sums.flatMap (fun s => beB s 4 4) = S at lS ⊢
      have hl57 : (69 :: (S ++ x.sum)).length ≤ 60 := by simp only [List.length_cons, List.length_append]; omega
      have hpl := padTo_length hl57
      refine cw_exit ?_
      refine kw_code (fun _ _ h => h) ?_
      refine cw_seq ?_
      refine cw_region ?_
      refine ow_y (y_fld F.fld213_2 rfl) ?_
      refine ow_y (y_loadAgg (v := (x.sum.map byteV).toArray) F.ag175 rfl (by simp only [hdL, List.size_toArray, List.length_append, c1, c2, c3]; omega) (by rw [show hdL x = (x.at_.map intV ++ (x.sums.map fun n : Nat => Value.int .u32 n)) ++ (x.sum.map byteV ++ []) by simp [hdL]]; exact extract_app (by rw [List.length_append, c1, c2]) c3)) ?_
      refine ow_gives rfl F.hb99 rfl (stext_spec x.sum hu) aSp ?_
      try simp only [List.cons_append, List.nil_append]
      refine ow_givesE rfl F.hb109 rfl (otext_spec b3 v' (69 :: S) (bs x.sum) (by simp only [List.length_cons]; omega) (by rw [bs_size, hu]; omega) hv') aSp ?_
      rintro v31 hv31
      try simp only [List.cons_append, List.nil_append]
      try rw [bs_list]
      refine ow_givesE rfl F.hb210 rfl (ofill_ok b3 v31 (69 :: (S ++ x.sum)) 60 hl57 (by omega) hv31) aSp ?_
      rintro v32 hv32
      try simp only [List.cons_append, List.nil_append]
      refine ow_gives rfl F.hb110 rfl (obytesK_spec b3 v32 _ hv32) aSp ?_
      try simp only [List.cons_append, List.nil_append]
      refine ow_y (y_assign rfl) ?_
      refine ow_nil ?_
      refine kw_code (fun _ _ h => h) ?_
      refine cw_seq ?_
      refine cw_region ?_
      refine ow_y (y_move rfl) ?_
      refine (ow_buildSlice F.sl247 F.z9 rfl rfl rfl (by simp [fillL, madeL, Value.cells] <;> rfl) (fun b35 => ?_))
      refine ow_gives rfl F.hb137 rfl (sum1_spec b35 1 _ (by rw [bs_size, hpl]; simp [maxLen])) aSp ?_
      try simp only [List.cons_append, List.nil_append]
      refine ow_y (y_conv F.ts26 F.in161 rfl) ?_
      rw [show ((Crc.crc (padTo 60 (69 :: (S ++ x.sum)))).toNat : Int) = (crcN (padTo 60 (69 :: (S ++ x.sum))) : Nat) from rfl, wrap_u64 _ _ rfl (by have := crcN_u32 (padTo 60 (69 :: (S ++ x.sum))); omega)]
      refine ow_givesE rfl F.hb108 rfl (onum_spec b3 v32 (padTo 60 (69 :: (S ++ x.sum))) (crcN (padTo 60 (69 :: (S ++ x.sum)))) 4 (by omega) (by rw [hpl]; omega) hv32 (by have := crcN_u32 (padTo 60 (69 :: (S ++ x.sum))); omega)) aSp ?_
      rintro v38 hv38
      try simp only [List.cons_append, List.nil_append]
      refine ow_gives rfl F.hb110 rfl (obytes_spec b3 v38 _ hv38) aSp ?_
      try simp only [List.cons_append, List.nil_append]
      refine ow_y (y_assign rfl) ?_
      refine ow_nil ?_
      refine kw_code (fun _ _ h => h) ?_
      refine cw_retG (fun _ _ h => h) rfl (by unfold hdBytes sealB; simp only [List.cons_append, List.nil_append, List.append_assoc]; rw [← hS, ← hA]; simp only [List.append_assoc]) aSp
end Go.Proofs.YthlclfdnhnnebaaGreatDoor
end
section
set_option maxRecDepth 4000
set_option maxHeartbeats 4000000
namespace Go.Proofs.YthlclfdnhnnebaaGreatDoor
open Go.Sl Go.Sb
theorem open_a {s : B} (h : s.length < 60) : openB s = .err 2 := by unfold openB; rw [if_pos h]
theorem open_b {s : B} (h1 : 60 ≤ s.length) (h : s.length < 64) : openB s = .err 2 := by unfold openB; rw [if_neg (by omega), if_pos h]
theorem open_c {s : B} (h1 : 64 ≤ s.length) (h : be ((s.drop 60).take 4) ≠ crcN (s.take 60)) : openB s = .err 11 := by unfold openB; rw [if_neg (by omega), if_neg (by omega), if_pos h]
theorem open_d {s : B} (h1 : 64 ≤ s.length) (h : be ((s.drop 60).take 4) = crcN (s.take 60)) (h2 : s.length ≠ 64) : openB s = .err 1 := by unfold openB; rw [if_neg (by omega), if_neg (by omega), if_neg (by simp [h]), if_pos h2]
theorem open_e {s : B} (h : be ((s.drop 60).take 4) = crcN (s.take 60)) (h2 : s.length = 64) : openB s = .ok (s.take 60) := by unfold openB; rw [if_neg (by omega), if_neg (by omega), if_neg (by simp [h]), if_neg (by simp [h2])]
theorem hdp_err {s : B} {e : Int} (h : openB s = .err e) : ((hdParse s, ()) : Out Hd × Unit) = (.err e, ()) := by unfold hdParse; rw [h]
theorem hdp_tag {s : B} (h : openB s = .ok (s.take 60)) (h1 : (s.take 60).take 1 ≠ [69]) : ((hdParse s, ()) : Out Hd × Unit) = (.err 1, ()) := by unfold hdParse; rw [h]; simp only; rw [if_pos h1]
theorem hdp_zero {s : B} (h : openB s = .ok (s.take 60)) (h1 : (s.take 60).take 1 = [69]) (h2 : allZero ((s.take 60).drop 57) = false) : ((hdParse s, ()) : Out Hd × Unit) = (.err 1, ()) := by
  unfold hdParse; rw [h]; simp only; rw [if_neg (by simp [h1]), if_pos h2]
theorem hdp_ok {s : B} (h : openB s = .ok (s.take 60)) (h1 : (s.take 60).take 1 = [69]) (h2 : allZero ((s.take 60).drop 57) = true) :
    ((hdParse s, ()) : Out Hd × Unit) = (.ok { at_ := (nums 2 4 ((s.take 60).drop 1)).map Int.ofNat, sums := nums 4 4 ((s.take 60).drop 9), sum := ((s.take 60).drop 25).take 32 }, ()) := by
  unfold hdParse; rw [h]; simp only; rw [if_neg (by simp [h1]), if_neg (by simp [h2])]
theorem nums_get (k : Nat) : ∀ (n : Nat) (l : B) (i : Nat) (h : i < (nums k n l).length), (nums k n l)[i] = be ((l.drop (k * i)).take k)
  | 0, _, i, h => by simp [nums] at h
  | n + 1, l, 0, h => by simp [nums]
  | n + 1, l, i + 1, h => by
    have h' : i < (nums k n (l.drop k)).length := by simpa [nums] using h
    have := nums_get k n (l.drop k) i h'
    simp only [nums, List.getElem_cons_succ]
    rw [this, List.drop_drop, Nat.mul_succ, Nat.add_comm]
def filled (pre l : List Value) (n : Nat) (z : Value) (i : Nat) (rest : List Value) : List Value := pre ++ (l.take i ++ (List.replicate (n - i) z ++ rest))
theorem fill_set {pre l rest : List Value} {z v : Value} {n i o : Nat} (hl : l.length = n) (hi : i < n) (ho : o = pre.length + i) (hv : l[i]? = some v) : (filled pre l n z i rest).set o v = filled pre l n z (i + 1) rest := by
  subst ho
  unfold filled
  have h1 : (l.take i).length = i := by simp; omega
  obtain ⟨m, hm⟩ : ∃ m, n - i = m + 1 := ⟨n - i - 1, by omega⟩
  rw [List.set_append_right _ _ (by omega), show pre.length + i - pre.length = i by omega, List.set_append_right _ _ (by omega), h1, Nat.sub_self, hm, List.replicate_succ]
  simp only [List.cons_append, List.set_cons_zero]
  rw [show n - (i + 1) = m by omega, List.take_succ, hv]
  simp
theorem fill_len {pre l rest : List Value} {z : Value} {n i : Nat} (hl : l.length = n) (hi : i ≤ n) : (filled pre l n z i rest).length = pre.length + (n + rest.length) := by unfold filled; simp; omega
theorem fill_done {pre l rest : List Value} {z : Value} {n : Nat} (hl : l.length = n) : filled pre l n z n rest = pre ++ (l ++ rest) := by unfold filled; rw [List.take_of_length_le (by omega), Nat.sub_self]; rfl
theorem fill_none {pre l rest : List Value} {z : Value} {n : Nat} : filled pre l n z 0 rest = pre ++ (List.replicate n z ++ rest) := by unfold filled; simp
theorem copy_end {A C D : List Value} {l : B} {n m k : Nat} (ha : A.length + C.length = k) (hd : D.length = n) (hl : l.length = n) (hm : m = n) :
    (A ++ (C ++ D)).take k ++ ((bs l).data.toList.take m).map byteV ++ (A ++ (C ++ D)).drop (k + min (bs l).size m) = A ++ (C ++ l.map byteV) := by
  subst hm
  have e : l.take m = l := List.take_of_length_le (by omega)
  rw [bs_size, bs_list, hl, Nat.min_self, e, ← List.append_assoc A C D, List.take_left' (by simp; omega), List.drop_eq_nil_of_le (by simp; omega)]
  simp
theorem drop_step (k i : Nat) (l : B) : (l.drop (k * i)).drop k = l.drop (k * (i + 1)) := by rw [List.drop_drop]; rfl
end Go.Proofs.YthlclfdnhnnebaaGreatDoor
end
section
set_option maxRecDepth 4000
set_option maxHeartbeats 4000000
namespace Go.Proofs.YthlclfdnhnnebaaGreatDoor
open Go.Sl Go.Sb
theorem be_len2 (l : B) : be (l.take 2) < 65536 := Nat.lt_of_lt_of_le (be_lt _) (Nat.pow_le_pow_right (n := 256) (j := 2) (by decide) (by simp; omega))
theorem be_len4 (l : B) : be (l.take 4) < 4294967296 := Nat.lt_of_lt_of_le (be_lt _) (Nat.pow_le_pow_right (n := 256) (j := 4) (by decide) (by simp; omega))
set_option maxRecDepth 4000 in
theorem hdParse_spec (s : B) (hs : s.length ≤ 1000000) : Does Tryz.prog 180 #[strV s] [] (Ran fT (fun _ : Unit => []) hdV (hdParse s, ())) := by
  have hb4 := be_len4 (s.drop 60)
  refine does_enter Tryz.func180 rfl Tryz.ntmps180 rfl (fun R w0 => ?_)
  simp only [envOf, List.cons_append, List.nil_append]
  refine cw_seq ?_
  refine cw_region ?_
  refine (ow_alloc F.z213 (fun b2 => ?_))
  refine ow_nil ?_
  refine kw_code (fun _ _ h => h) ?_
  refine cw_seq ?_
  refine cw_region ?_
  refine ow_y (y_move rfl) ?_
  refine ow_givesE rfl F.hb154 rfl (read_spec (bs s)) aSp ?_
  rintro b9 _
  try simp only [List.cons_append, List.nil_append]
  refine ow_y (y_assign rfl) ?_
  refine ow_nil ?_
  refine kw_code (fun _ _ h => h) ?_
  refine cw_seq ?_
  refine cw_region ?_
  refine ow_y (y_move rfl) ?_
  refine ow_ran rfl F.hb156 rfl (itext_spec b9 s 60 hs) aSp (fun a t ho => ?_) (fun e t ho => by (repeat (first | with_reducible refine kw_inBlock_panic ?_ | with_reducible refine kw_then_panic ?_)); exact kw_errR ((by obtain ⟨h1, rfl⟩ := itext_err ho; exact hdp_err (open_a h1))) (fun _ _ h => h) aSp)
  try simp only [List.cons_append, List.nil_append]
  obtain ⟨h1, rfl, rfl⟩ := itext_ok ho
  refine ow_y (y_assign rfl) ?_
  refine ow_nil ?_
  refine kw_code (fun _ _ h => h) ?_
  refine cw_seq ?_
  refine cw_seq ?_
  refine cw_region ?_
  refine ow_y (y_move rfl) ?_
  refine ow_ran rfl F.hb155 rfl (inum_spec b9 (s.drop 60) 4 (by omega) (by simp; omega)) aSp (fun n t ho => ?_) (fun e t ho => by (repeat (first | with_reducible refine kw_inBlock_panic ?_ | with_reducible refine kw_then_panic ?_)); exact kw_errR ((by obtain ⟨h2, rfl⟩ := inum_err ho; exact hdp_err (open_b h1 (by simp at h2; omega)))) (fun _ _ h => h) aSp)
  try simp only [List.cons_append, List.nil_append]
  obtain ⟨h2, rfl, rfl⟩ := inum_ok ho
  refine ow_y (y_conv F.ts161 F.in26 rfl) ?_
  rw [show IntKind.u32.wrap ((be ((s.drop 60).take 4) : Nat) : Int) = (be ((s.drop 60).take 4) : Nat) from by rw [IntKind.wrap_u32]; omega]
  refine ow_y (y_move rfl) ?_
  refine (ow_buildSlice F.sl247 F.z9 rfl rfl rfl (by simp [fillL, madeL, Value.cells] <;> rfl) (fun b16 => ?_))
  refine ow_gives rfl F.hb137 rfl (sum1_spec b16 1 (bs (s.take 60)) (by rw [bs_size]; simp [maxLen]; omega)) aSp ?_
  try simp only [List.cons_append, List.nil_append]
  rw [show ((Crc.crc (s.take 60)).toNat : Int) = (crcN (s.take 60) : Nat) from rfl]
  refine ow_y (y_neq rfl rfl) ?_
  refine ow_nil ?_
  refine kw_code (fun _ _ h => h) ?_
  refine cw_if rfl (fun hb18 => ?_) (fun hb18 => ?_)
  · skip
    refine cw_region ?_
    refine ow_fails rfl F.hb29 rfl (fail_spec 11) aSp ?_
    simp only [List.cons_append, List.nil_append]
    repeat (first | with_reducible refine kw_inBlock_panic ?_ | with_reducible refine kw_then_panic ?_)
    exact kw_errR (hdp_err (open_c (by simp at h2; omega) (by have h := hb18; simp at h; omega))) (fun _ _ h => h) aSp
  · skip
    have hcr : be ((s.drop 60).take 4) = crcN (s.take 60) := by have h := hb18; simp at h; omega
    refine cw_skip ?_
    refine kw_code (fun _ _ h => h) ?_
    refine cw_seq ?_
    refine cw_region ?_
    refine ow_y (y_move rfl) ?_
    refine ow_ran rfl F.hb214 rfl (idone_spec b9 ((s.drop 60).drop 4)) aSp (fun u t3 ho => ?_) (fun e t ho => by (repeat (first | with_reducible refine kw_inBlock_panic ?_ | with_reducible refine kw_then_panic ?_)); exact kw_errR ((by obtain ⟨h3, rfl⟩ := idone_err ho; exact hdp_err (open_d (by simp at h2; omega) hcr (fun e => h3 (List.eq_nil_of_length_eq_zero (by simp; omega)))))) (fun _ _ h => h) aSp)
    try simp only [List.cons_append, List.nil_append]
    refine ow_nil ?_
    refine kw_code (fun _ _ h => h) ?_
    refine cw_seq ?_
    have h3 := congrArg List.length (idone_ok ho)
    have h64 : s.length = 64 := by simp at h3 h2; omega
    have hop := open_e hcr h64
    have ht60 : (s.take 60).length = 60 := by simp; omega
    generalize hT : s.take 60 = T at hop ht60 ⊢
    refine cw_region ?_
    refine ow_y (y_move rfl) ?_
    refine ow_givesE rfl F.hb154 rfl (read_spec (bs T)) aSp ?_
    rintro b23 _
    try simp only [List.cons_append, List.nil_append]
    refine ow_y (y_assign rfl) ?_
    refine ow_nil ?_
    refine kw_code (fun _ _ h => h) ?_
    refine cw_seq ?_
    refine cw_seq ?_
    refine cw_region ?_
    refine ow_y (y_move rfl) ?_
    refine ow_gives rfl F.hb156 rfl (textL_ok b23 T 1 (by omega) (by omega)) aSp ?_
    try simp only [List.cons_append, List.nil_append]
    refine ow_y (y_str_neq rfl rfl) ?_
    refine ow_nil ?_
    refine kw_code (fun _ _ h => h) ?_
    refine cw_if rfl (fun hb26 => ?_) (fun hb26 => ?_)
    · skip
      refine cw_region ?_
      refine ow_fails rfl F.hb29 rfl (fail_spec 1) aSp ?_
      simp only [List.cons_append, List.nil_append]
      repeat (first | with_reducible refine kw_inBlock_panic ?_ | with_reducible refine kw_then_panic ?_)
      exact kw_errR (hdp_tag (by rw [hT]; exact hop) (by rw [hT]; have := hb26; intro e; rw [e] at this; simp at this)) (fun _ _ h => h) aSp
    · skip
      have htag : T.take 1 = [69] := by
        have h := hb26
        rw [show (⟨#[69]⟩ : ByteArray) = bs [69] from rfl, bs_toList, bs_toList] at h
        simpa using h
      have hn1 := nums_len 2 4 (T.drop 1)
      have hn2 := nums_len 4 4 (T.drop 9)
      have hi1 : ((nums 2 4 (T.drop 1)).map fun n : Nat => intV n).length = 4 := by rw [List.length_map, hn1]
      have hi2 : ((nums 4 4 (T.drop 9)).map fun n : Nat => Value.int .u32 n).length = 4 := by rw [List.length_map, hn2]
      refine cw_skip ?_
      refine kw_code (fun _ _ h => h) ?_
      refine cw_seq ?_
      refine cw_region ?_
      refine (ow_alloc F.z213 (fun b5 => ?_))
      refine ow_nil ?_
      refine kw_code (fun _ _ h => h) ?_
      refine cw_seq ?_
      refine cw_seq ?_
      refine cw_region ?_
      refine ow_y (y_move rfl) ?_
      refine ow_nil ?_
      refine kw_code (fun _ _ h => h) ?_
      refine cw_block ?_
      refine cw_loop (X := {i : Nat // i ≤ 4}) (fun y => [(2, ptr b2), (3, ptr b23), (5, ptr b5), (28, .int .i64 y.1)]) (fun y => [pts b5 (.cells (filled [] ((nums 2 4 (T.drop 1)).map fun n : Nat => intV n) 4 (intV 0) y.1 (List.replicate 4 (Value.int .u32 0) ++ List.replicate 32 (Value.int .u8 0))).toArray 213 (0, 0)), pinL b23 ((T.drop 1).drop (2 * y.1)), pts b2 (.cells (List.replicate 4 (intV 0) ++ (List.replicate 4 (Value.int .u32 0) ++ List.replicate 32 (Value.int .u8 0))).toArray 213 (0, 0)), R]) (fun y => 4 - y.1) ⟨0, by omega⟩ (by repeat (first | exact Sub.nil | refine Sub.cons rfl ?_)) aSp ?_
      rintro ⟨i, hi⟩ m0 hm0
      try simp only at hm0
      try dsimp only
      skip
      refine cw_seq ?_
      refine cw_region ?_
      refine ow_y (y_lss rfl rfl) ?_
      refine ow_nil ?_
      refine kw_code (fun _ _ h => h) ?_
      refine cw_seq ?_
      refine cw_if rfl (fun hb29 => ?_) (fun hb29 => ?_)
      · skip
        have hi4 : i < 4 := by have := of_decide_eq_true hb29; omega
        have hil : i < (nums 2 4 (T.drop 1)).length := by omega
        refine cw_skip ?_
        refine kw_code (fun _ _ h => h) ?_
        refine cw_seq ?_
        refine cw_block ?_
        refine cw_seq ?_
        refine cw_region ?_
        refine ow_y (y_move rfl) ?_
        refine ow_y (y_assign rfl) ?_
        refine ow_nil ?_
        refine kw_code (fun _ _ h => h) ?_
        refine cw_region ?_
        refine ow_y (y_move rfl) ?_
        refine ow_y (y_move rfl) ?_
        refine ow_gives rfl F.hb155 rfl (numL_ok b23 ((T.drop 1).drop (2 * i)) 2 (by omega) (by simp; omega) (by simp; omega)) aSp ?_
        try simp only [List.cons_append, List.nil_append]
        refine ow_y (y_conv F.ts161 F.in3 rfl) ?_
        have hb2 := be_len2 ((T.drop 1).drop (2 * i))
        rw [show IntKind.i64.wrap ((be (((T.drop 1).drop (2 * i)).take 2) : Nat) : Int) = (be (((T.drop 1).drop (2 * i)).take 2) : Nat) from wrap_sm _ _ (by omega) (by simp only [IntKind.bits]; omega)]
        refine ow_y (y_fld F.fld213_0 rfl) ?_
        refine ow_y (y_ixa F.ar210 rfl rfl (by omega)) ?_
        refine ow_store F.sz3 rfl rfl rfl (by rw [fill_len hi1 (by omega)]; simp; omega) (fill_set hi1 hi4 (by simp) (by rw [List.getElem?_map, List.getElem?_eq_getElem hil, nums_get]; rfl)) ?_
        refine ow_nil ?_
        rw [drop_step 2 i]
        refine kw_code (fun _ _ h => h) ?_
        refine cw_region ?_
        refine ow_y (y_addI rfl rfl (by omega)) ?_
        refine ow_y (y_move rfl) ?_
        refine ow_nil ?_
        refine kw_rnd (fun _ _ h => h) (⟨i + 1, hi4⟩) (by first | omega | (simp only; omega)) (by repeat (first | exact Sub.nil | refine Sub.cons rfl ?_)) aSp
      · skip
        obtain rfl : i = 4 := by have := of_decide_eq_false hb29; omega
        rw [fill_done hi1]
        refine cw_exit ?_
        refine kw_code (fun _ _ h => h) ?_
        refine cw_seq ?_
        refine cw_seq ?_
        refine cw_region ?_
        refine ow_y (y_move rfl) ?_
        refine ow_nil ?_
        refine kw_code (fun _ _ h => h) ?_
        refine cw_block ?_
        rw [List.drop_drop, show ((nums 2 4 (T.drop 1)).map fun n : Nat => intV n) ++ (List.replicate 4 (Value.int .u32 0) ++ List.replicate 32 (Value.int .u8 0)) = filled ((nums 2 4 (T.drop 1)).map fun n : Nat => intV n) ((nums 4 4 (T.drop 9)).map fun n : Nat => Value.int .u32 n) 4 (Value.int .u32 0) 0 (List.replicate 32 (Value.int .u8 0)) from fill_none.symm, List.nil_append]
        refine cw_loop (X := {i : Nat // i ≤ 4}) (fun y => [(2, ptr b2), (3, ptr b23), (5, ptr b5), (38, .int .i64 y.1)]) (fun y => [pts b5 (.cells (filled ((nums 2 4 (T.drop 1)).map fun n : Nat => intV n) ((nums 4 4 (T.drop 9)).map fun n : Nat => Value.int .u32 n) 4 (Value.int .u32 0) y.1 (List.replicate 32 (Value.int .u8 0))).toArray 213 (0, 0)), pinL b23 ((T.drop 9).drop (4 * y.1)), pts b2 (.cells (List.replicate 4 (intV 0) ++ (List.replicate 4 (Value.int .u32 0) ++ List.replicate 32 (Value.int .u8 0))).toArray 213 (0, 0)), R]) (fun y => 4 - y.1) ⟨0, by omega⟩ (by repeat (first | exact Sub.nil | refine Sub.cons rfl ?_)) aSp ?_
        rintro ⟨i, hi⟩ m2 hm2
        try simp only at hm2
        try dsimp only
        skip
        refine cw_seq ?_
        refine cw_region ?_
        refine ow_y (y_lss rfl rfl) ?_
        refine ow_nil ?_
        refine kw_code (fun _ _ h => h) ?_
        refine cw_seq ?_
        refine cw_if rfl (fun hb39 => ?_) (fun hb39 => ?_)
        · skip
          have hi4 : i < 4 := by have := of_decide_eq_true hb39; omega
          have hil : i < (nums 4 4 (T.drop 9)).length := by omega
          refine cw_skip ?_
          refine kw_code (fun _ _ h => h) ?_
          refine cw_seq ?_
          refine cw_block ?_
          refine cw_seq ?_
          refine cw_region ?_
          refine ow_y (y_move rfl) ?_
          refine ow_y (y_assign rfl) ?_
          refine ow_nil ?_
          refine kw_code (fun _ _ h => h) ?_
          refine cw_region ?_
          refine ow_y (y_move rfl) ?_
          refine ow_y (y_move rfl) ?_
          refine ow_gives rfl F.hb155 rfl (numL_ok b23 ((T.drop 9).drop (4 * i)) 4 (by omega) (by simp; omega) (by simp; omega)) aSp ?_
          try simp only [List.cons_append, List.nil_append]
          refine ow_y (y_conv F.ts161 F.in26 rfl) ?_
          have hb2 := be_len4 ((T.drop 9).drop (4 * i))
          rw [show IntKind.u32.wrap ((be (((T.drop 9).drop (4 * i)).take 4) : Nat) : Int) = (be (((T.drop 9).drop (4 * i)).take 4) : Nat) from by rw [IntKind.wrap_u32]; omega]
          refine ow_y (y_fld F.fld213_1 rfl) ?_
          refine ow_y (y_ixa F.ar211 rfl rfl (by omega)) ?_
          refine ow_store F.sz26 rfl rfl rfl (by rw [fill_len hi2 (by omega)]; simp; omega) (fill_set hi2 hi4 (by rw [hi1]; simp) (by rw [List.getElem?_map, List.getElem?_eq_getElem hil, nums_get]; rfl)) ?_
          refine ow_nil ?_
          rw [drop_step 4 i]
          refine kw_code (fun _ _ h => h) ?_
          refine cw_region ?_
          refine ow_y (y_addI rfl rfl (by omega)) ?_
          refine ow_y (y_move rfl) ?_
          refine ow_nil ?_
          refine kw_rnd (fun _ _ h => h) (⟨i + 1, hi4⟩) (by first | omega | (simp only; omega)) (by repeat (first | exact Sub.nil | refine Sub.cons rfl ?_)) aSp
        · skip
          obtain rfl : i = 4 := by have := of_decide_eq_false hb39; omega
          rw [fill_done hi2, List.drop_drop]
          refine cw_exit ?_
          refine kw_code (fun _ _ h => h) ?_
          refine cw_seq ?_
          refine cw_mix (.soft 0 (.soft 1 (.soft 2 (.hard 3 (.hard 4 .done))))) [] F.fol (by kernel_rfl) (by repeat (first | with_reducible exact NoSlots.bp | with_reducible apply NoSlots.then | with_reducible apply NoSlots.inBlock)) aSp ?_
          refine om_y rfl (y_fld F.fld213_2 rfl) ?_
          refine om_y rfl (y_sliceArr F.ar175 rfl) ?_
          refine om_y rfl (y_move rfl) ?_
          refine om_h rfl ?_
          refine ow_gives rfl F.hb156 rfl (textL_ok b23 (T.drop (9 + 4 * 4)) 32 (by simp; omega) (by simp; omega)) aSp ?_
          try simp only [List.cons_append, List.nil_append]
          refine ow_nil ?_
          refine om_next aSp ?_
          refine om_h rfl ?_
          refine ow_copyStr F.sl74 rfl rfl (by rw [bs_size]; simp [nums_len]; omega) (copy_end (n := 32) (by rw [hi1, hi2]) (by simp) (by simp; omega) rfl) ?_
          refine ow_nil ?_
          refine om_next aSp ?_
          refine om_nil ?_
          refine kw_code (fun _ _ h => h) ?_
          refine cw_seq ?_
          refine cw_region ?_
          refine ow_y (y_move rfl) ?_
          refine ow_ran rfl F.hb215 rfl (izero_spec b23 ((T.drop (9 + 4 * 4)).drop 32) (by simp; omega)) aSp (fun u6 t6 ho => ?_) (fun e t ho => by (repeat (first | with_reducible refine kw_inBlock_panic ?_ | with_reducible refine kw_then_panic ?_)); exact kw_errR ((by obtain ⟨h6, rfl⟩ := izero_err ho; exact hdp_zero (by rw [hT]; exact hop) (by rw [hT]; exact htag) (by rw [hT, show (57 : Nat) = 9 + 4 * 4 + 32 from rfl, ← List.drop_drop]; exact h6))) (fun _ _ h => h) aSp)
          try simp only [List.cons_append, List.nil_append]
          refine ow_nil ?_
          refine kw_code (fun _ _ h => h) ?_
          refine cw_seq ?_
          have hz := izero_ok ho
          rw [List.drop_drop] at hz
          have hsz : ∀ l : B, l.length = 32 → (((nums 2 4 (T.drop 1)).map fun n : Nat => intV n) ++ (((nums 4 4 (T.drop 9)).map fun n : Nat => Value.int .u32 n) ++ l.map byteV)).toArray.size = 40 := fun l hl => by simp [nums_len, hl]
          have hl32 : ((T.drop (9 + 4 * 4)).take 32).length = 32 := by simp; omega
          generalize hU : (T.drop (9 + 4 * 4)).take 32 = U at hl32 ⊢
          refine cw_region ?_
          refine ow_y (y_loadAgg F.ag213 rfl (by rw [hsz U hl32]; omega) (extract_all (hsz U hl32))) ?_
          refine ow_storeAgg F.sz213 rfl rfl (hsz U hl32) (fun x hx => by simp at hx; rcases hx with ⟨_, _, rfl⟩ | ⟨_, _, rfl⟩ | ⟨_, _, rfl⟩ <;> rfl) (by rw [hsz U hl32]; simp) (splice_all (by rw [hsz U hl32]; simp)) ?_
          refine ow_nil ?_
          refine kw_code (fun _ _ h => h) ?_
          refine cw_retRC (hdp_ok (by rw [hT]; exact hop) (by rw [hT]; exact htag) (by rw [hT, show (57 : Nat) = 9 + 4 * 4 + 32 from rfl]; exact hz)) (fun _ _ h => h) (RV.agg F.ag213 rfl (by rw [hsz U hl32]; omega) (extract_all (hsz U hl32)) RV.nil) ?_ aSp
          show Value.agg _ = Value.agg _
          rw [hT, show (25 : Nat) = 9 + 4 * 4 from rfl, hU]
          simp [hdL, List.map_map, Function.comp_def]
end Go.Proofs.YthlclfdnhnnebaaGreatDoor
end
section
set_option maxRecDepth 4000
set_option maxHeartbeats 4000000
namespace Go.Proofs.YthlclfdnhnnebaaGreatDoor
open Go.Sl Go.Sb
def ndL (level : Int) (n : Nd) : List Value := [intV level] ++ (n.kids.map intV ++ n.sum.map byteV)
def ndV (level : Int) (n : Nd) : Value := .agg (ndL level n).toArray
structure NdLen (x : Nd) : Prop where
  n : x.kids.length = 8
  sum : x.sum.length = 32
set_option maxRecDepth 4000 in
theorem ndBytes_spec (level : Nat) (x : Nd) (h : NdLen x) : Does Tryz.prog 202 #[ndV level x] [] (Gives (strV (ndBytes level x)) []) := by
  obtain ⟨hn, hu⟩ := h
  unfold ndV
  have l1 : ∀ i, ((x.kids.take i).flatMap (num · 2)).length ≤ 16 := fun i => by rw [flat_len (k := 2) fun a => num_length a 2]; simp; omega
  have c1 : (x.kids.map intV).length = 8 := by simp [hn]
  have c3 : (x.sum.map byteV).length = 32 := by simp [hu]
  have n1 : (num (level : Int) 1).length = 1 := num_length _ _
  refine does_enter Tryz.func202 rfl Tryz.ntmps202 rfl (fun R w0 => ?_)
  simp only [envOf, List.cons_append, List.nil_append]
  refine cw_seq ?_
  refine cw_region ?_
  refine (ow_box rfl (fun b1 => ?_))
  refine ow_y (y_assign rfl) ?_
  refine ow_nil ?_
  refine kw_code (fun _ _ h => h) ?_
  refine cw_seq ?_
  refine cw_region ?_
  refine (ow_alloc F.z186 (fun b3 => ?_))
  refine ow_nil ?_
  refine kw_code (fun _ _ h => h) ?_
  refine cw_seq ?_
  refine cw_said (L' := pout b3 (.slice none 0 0) [] ++ [pts b1 (.cells (ndL level x).toArray 220 (0, 0)), R]) (fun w h => (sat_row_nil 5 1 w h).perm (List.Perm.swap _ _ _)) ?_
  simp only [List.cons_append, List.nil_append]
  refine cw_mix (.soft 1 (.soft 2 (.soft 3 (.hard 0 (.hard 4 .done))))) [pts b1 (.cells (ndL level x).toArray 220 (0, 0))] F.fol (by kernel_rfl) (by repeat (first | with_reducible exact NoSlots.bp | with_reducible apply NoSlots.then | with_reducible apply NoSlots.inBlock)) aSp ?_
  refine om_y rfl (y_fld F.fld220_0 rfl) ?_
  refine om_y rfl (y_load (v := intV level) F.sc3 rfl (by rfl)) ?_
  refine om_y rfl (y_conv F.ts3 F.in161 rfl) ?_
  refine om_h rfl ?_
  refine ow_givesE rfl F.hb109 rfl (otext_spec b3 (.slice none 0 0) [] ⟨#[78]⟩ (by simp) (by decide) rfl) aSp ?_
  rintro v7 hv7
  try simp only [List.cons_append, List.nil_append]
  refine ow_nil ?_
  refine om_next aSp ?_
  refine om_h rfl ?_
  rw [wrap_u64z]
  refine ow_givesE rfl F.hb108 rfl (onum_spec b3 v7 [78] (u64 level) 1 (by omega) (by simp) hv7 (u64_lt _)) aSp ?_
  rintro v11 hv11
  try simp only [List.cons_append, List.nil_append]
  refine ow_nil ?_
  refine om_next aSp ?_
  refine om_nil ?_
  refine kw_code (fun _ _ h => h) ?_
  refine cw_seq ?_
  refine cw_seq ?_
  refine cw_region ?_
  refine ow_y (y_fld F.fld220_1 rfl) ?_
  refine ow_y (y_loadAgg F.ag218 rfl (by simp [ndL, c1, c3]) (extract_app (a := [intV level]) rfl c1)) ?_
  refine ow_y (y_move rfl) ?_
  refine ow_nil ?_
  refine kw_code (fun _ _ h => h) ?_
  refine cw_block ?_
  simp only [List.take_zero, List.flatMap_nil, List.append_nil]
  refine cw_loop (X := {y : Nat × Value // y.1 ≤ 8 ∧ y.2.oneCell' = true}) (fun y => [(1, ptr b1), (3, ptr b3), (13, .agg (x.kids.map intV).toArray), (14, .int .i64 y.1.1)]) (fun y => pout b3 y.1.2 (78 :: (num level 1 ++ (x.kids.take y.1.1).flatMap (num · 2))) ++ [pts b1 (.cells (ndL level x).toArray 220 (0, 0)), R]) (fun y => 8 - y.1.1) ⟨(0, v11), by omega, hv11⟩ (by repeat (first | exact Sub.nil | refine Sub.cons rfl ?_)) aSp ?_
  rintro ⟨⟨i, v⟩, hi, hv⟩ m0 hm0
  try simp only at hm0
  try dsimp only
  simp only at hi hv
  simp only [List.cons_append, List.nil_append]
  refine cw_seq ?_
  refine cw_region ?_
  refine ow_y (y_lss rfl rfl) ?_
  refine ow_nil ?_
  refine kw_code (fun _ _ h => h) ?_
  refine cw_seq ?_
  refine cw_if rfl (fun hb15 => ?_) (fun hb15 => ?_)
  · skip
    have hi8 : i < 8 := by have := of_decide_eq_true hb15; omega
    have hil : i < x.kids.length := by omega
    refine cw_skip ?_
    refine kw_code (fun _ _ h => h) ?_
    refine cw_seq ?_
    refine cw_block ?_
    refine cw_seq ?_
    refine cw_region ?_
    refine ow_y (y_ixv F.ar218 F.sc3 rfl rfl (by omega) (nth_map intV x.kids i _ hil (by omega))) ?_
    refine ow_y (y_assign rfl) ?_
    refine ow_nil ?_
    refine kw_code (fun _ _ h => h) ?_
    refine cw_region ?_
    refine ow_y (y_move rfl) ?_
    refine ow_y (y_conv F.ts3 F.in161 rfl) ?_
    rw [wrap_u64z]
    refine ow_givesE rfl F.hb108 rfl (onum_spec b3 v (78 :: (num level 1 ++ (x.kids.take i).flatMap (num · 2))) (u64 x.kids[i]) 2 (by omega) (by have := l1 i; simp only [List.length_cons, List.length_append, n1]; omega) hv (u64_lt _)) aSp ?_
    rintro v19 hv19
    try simp only [List.cons_append, List.nil_append]
    refine ow_nil ?_
    rw [List.append_assoc, show (x.kids.take i).flatMap (num · 2) ++ beB (u64 x.kids[i]) 2 2 = (x.kids.take (i + 1)).flatMap (num · 2) from (flat_take (num · 2) x.kids i hil).symm]
    refine kw_code (fun _ _ h => h) ?_
    refine cw_region ?_
    refine ow_y (y_addI rfl rfl (by omega)) ?_
    refine ow_y (y_move rfl) ?_
    refine ow_nil ?_
    refine kw_rnd (fun _ _ h => h) (⟨(i + 1, v19), hi8, hv19⟩) (by first | omega | (simp only; omega)) (by repeat (first | exact Sub.nil | refine Sub.cons rfl ?_)) aSp
  · skip
    obtain rfl : i = 8 := by have := of_decide_eq_false hb15; omega
    rw [List.take_of_length_le (by omega)]
    have lA := l1 8
    rw [List.take_of_length_le (by omega)] at lA
    have lS : (num level 1 ++ x.kids.flatMap (num · 2)).length ≤ 17 := by rw [List.length_append, n1]; omega
    generalize hS : num level 1 ++ x.kids.flatMap (num · 2) = S at lS ⊢
    have hl57 : (78 :: (S ++ x.sum)).length ≤ 60 := by simp only [List.length_cons, List.length_append]; omega
    have hpl := padTo_length hl57
    refine cw_exit ?_
    refine kw_code (fun _ _ h => h) ?_
    refine cw_seq ?_
    refine cw_region ?_
    refine ow_y (y_fld F.fld220_2 rfl) ?_
    refine ow_y (y_loadAgg (v := (x.sum.map byteV).toArray) F.ag175 rfl (by simp only [ndL, List.size_toArray, List.length_append, c1, c3, List.length_singleton]; omega) (by rw [show ndL level x = ([intV level] ++ x.kids.map intV) ++ (x.sum.map byteV ++ []) by simp [ndL]]; exact extract_app (by rw [List.length_append, c1]; rfl) c3)) ?_
    refine ow_gives rfl F.hb99 rfl (stext_spec x.sum hu) aSp ?_
    try simp only [List.cons_append, List.nil_append]
    refine ow_givesE rfl F.hb109 rfl (otext_spec b3 v (78 :: S) (bs x.sum) (by simp only [List.length_cons]; omega) (by rw [bs_size, hu]; omega) hv) aSp ?_
    rintro v24 hv24
    try simp only [List.cons_append, List.nil_append]
    refine ow_givesE rfl F.hb210 rfl (ofill_ok b3 v24 (78 :: (S ++ x.sum)) 60 hl57 (by omega) hv24) aSp ?_
    rintro v25 hv25
    try simp only [List.cons_append, List.nil_append]
    refine ow_gives rfl F.hb110 rfl (obytesK_spec b3 v25 _ hv25) aSp ?_
    try simp only [List.cons_append, List.nil_append]
    refine ow_y (y_assign rfl) ?_
    refine ow_nil ?_
    refine kw_code (fun _ _ h => h) ?_
    refine cw_seq ?_
    refine cw_region ?_
    refine ow_y (y_move rfl) ?_
    refine (ow_buildSlice F.sl247 F.z9 rfl rfl rfl (by simp [fillL, madeL, Value.cells] <;> rfl) (fun b28 => ?_))
    refine ow_gives rfl F.hb137 rfl (sum1_spec b28 1 _ (by rw [bs_size, hpl]; simp [maxLen])) aSp ?_
    try simp only [List.cons_append, List.nil_append]
    refine ow_y (y_conv F.ts26 F.in161 rfl) ?_
    rw [show ((Crc.crc (padTo 60 (78 :: (S ++ x.sum)))).toNat : Int) = (crcN (padTo 60 (78 :: (S ++ x.sum))) : Nat) from rfl, wrap_u64 _ _ rfl (by have := crcN_u32 (padTo 60 (78 :: (S ++ x.sum))); omega)]
    refine ow_givesE rfl F.hb108 rfl (onum_spec b3 v25 (padTo 60 (78 :: (S ++ x.sum))) (crcN (padTo 60 (78 :: (S ++ x.sum)))) 4 (by omega) (by rw [hpl]; omega) hv25 (by have := crcN_u32 (padTo 60 (78 :: (S ++ x.sum))); omega)) aSp ?_
    rintro v31 hv31
    try simp only [List.cons_append, List.nil_append]
    refine ow_gives rfl F.hb110 rfl (obytes_spec b3 v31 _ hv31) aSp ?_
    try simp only [List.cons_append, List.nil_append]
    refine ow_y (y_assign rfl) ?_
    refine ow_nil ?_
    refine kw_code (fun _ _ h => h) ?_
    refine cw_retG (fun _ _ h => h) rfl (by unfold ndBytes sealB; simp only [List.cons_append, List.nil_append, List.append_assoc]; rw [← hS]; simp only [List.append_assoc]) aSp
end Go.Proofs.YthlclfdnhnnebaaGreatDoor
end
