/- Part of the proof; no statement of its own: P2, P3, P4, P5, P7, P8, G3F, G2F, G1F, G1. -/
import Derived.Test.YthlclfdnhnnebaaGreatDoorB08
import Derived.Test.YthlclfdnhnnebaaGreatDoorB07
import Derived.Test.YthlclfdnhnnebaaGreatDoorB06
import Derived.Test.YthlclfdnhnnebaaGreatDoorProg
import Derived.KernelRfl
set_option linter.all false
section
set_option maxRecDepth 4000
set_option maxHeartbeats 4000000
namespace Go.Proofs.YthlclfdnhnnebaaGreatDoor
open Go.Sl Go.Sb
abbrev pin (b : Nat) (s : ByteArray) : Asrt := pts b (.cells #[.string s] 262 (0, 0))
theorem be_take (l : List UInt8) (i : Nat) (h : i < l.length) : be (l.take (i + 1)) = be (l.take i) * 256 + l[i].toNat := by
  simp only [be]
  rw [List.take_succ, List.getElem?_eq_getElem h, List.foldl_append]; rfl
theorem be_lt (l : List UInt8) : be l < 256 ^ l.length := by
  have : ∀ (l : List UInt8) (n : Nat), l.foldl (fun n c => n * 256 + c.toNat) n < (n + 1) * 256 ^ l.length := by
    intro l
    induction l with
    | nil => intro n; simp
    | cons c l ih =>
      intro n
      have h1 := ih (n * 256 + c.toNat)
      have hc := c.toNat_lt
      simp only [List.foldl_cons, List.length_cons, Nat.pow_succ]
      refine Nat.lt_of_lt_of_le h1 ?_
      rw [Nat.mul_comm (256 ^ l.length) 256, ← Nat.mul_assoc]
      exact Nat.mul_le_mul_right _ (by omega)
  simpa [be] using this l 0
theorem be_bound (l : List UInt8) (i : Nat) (hi : i < 8) : be (l.take i) * 256 < 18446744073709551616 := by
  have h1 := be_lt (l.take i)
  have h2 : (l.take i).length ≤ 7 := by simp; omega
  have h3 : 256 ^ (l.take i).length ≤ 256 ^ 7 := Nat.pow_le_pow_right (by decide) h2
  omega
theorem wrap_u64 (x : Int) (n : Nat) (h : x = n) (hn : n < 18446744073709551616) : IntKind.u64.wrap x = (n : Int) := by
  subst h
  simp only [IntKind.wrap, IntKind.bits, IntKind.signed, Bool.false_and, Bool.false_eq_true, if_false]
  exact Int.emod_eq_of_lt (Int.natCast_nonneg _) (by omega)
theorem read_spec (s : ByteArray) : Does Tryz.prog 154 #[.string s] [] (GivesE (fun _ : Nat => True) (fun b => .pointer (some ⟨b, 0, none⟩)) (fun b => [pin b s])) := by
  refine does_enter Tryz.func154 rfl Tryz.ntmps154 rfl (fun R w0 => ?_)
  simp only [envOf, List.cons_append, List.nil_append]
  refine cw_seq ?_
  refine cw_region ?_
  refine ow_y (y_assign rfl) ?_
  refine ow_nil ?_
  refine kw_code (fun _ _ h => h) ?_
  refine cw_seq ?_
  refine cw_region ?_
  refine ow_y (y_move rfl) ?_
  refine ow_y (y_build F.pl262 rfl (by simp [fillL, nth, Value.cells] <;> rfl)) ?_
  refine (ow_box rfl (fun b5 => ?_))
  refine ow_y (y_assign rfl) ?_
  refine ow_nil ?_
  refine kw_code (fun _ _ h => h) ?_
  refine cw_retE b5 trivial (fun _ _ h => h) rfl rfl aSp
theorem text_ok (b : Nat) (s : ByteArray) (n : Nat) (hn : n ≤ s.size) (hs : s.size ≤ 1000000) : Does Tryz.prog 156 #[.pointer (some ⟨b, 0, none⟩), .int .i64 n] [pin b s] (Gives (.string (s.extract 0 n)) [pin b (s.extract n s.size)]) := by
  refine does_enter Tryz.func156 rfl Tryz.ntmps156 rfl (fun R w0 => ?_)
  simp only [envOf, List.cons_append, List.nil_append]
  refine cw_seq ?_
  refine cw_region ?_
  refine ow_y (y_assign rfl) ?_
  refine ow_nil ?_
  refine kw_code (fun _ _ h => h) ?_
  refine cw_seq ?_
  refine cw_block ?_
  refine cw_seq ?_
  refine cw_region ?_
  refine ow_y (y_move rfl) ?_
  refine ow_y (y_lss rfl rfl) ?_
  refine ow_y (y_assign rfl) ?_
  refine ow_nil ?_
  refine kw_code (fun _ _ h => h) ?_
  refine cw_false rfl (by first | rfl | exact decide_eq_false (by omega)) ?_
  refine cw_seq ?_
  refine cw_region ?_
  refine ow_y (y_move rfl) ?_
  refine ow_y (y_move rfl) ?_
  refine ow_y (y_nil rfl) ?_
  refine ow_y (y_fld F.fld262_0 rfl) ?_
  refine ow_y (y_load F.sc9 rfl (by rfl)) ?_
  refine ow_y (y_len_str F.st9 rfl) ?_
  refine ow_y (y_gtr rfl rfl) ?_
  refine ow_y (y_assign rfl) ?_
  refine ow_nil ?_
  refine kw_code (fun _ _ h => h) ?_
  refine cw_false rfl (by first | rfl | exact decide_eq_false (by omega)) ?_
  refine cw_skip ?_
  refine kw_code (fun _ _ h => h) ?_
  refine cw_seq ?_
  refine cw_region ?_
  refine ow_y (y_move rfl) ?_
  refine ow_y (y_nil rfl) ?_
  refine ow_y (y_fld F.fld262_0 rfl) ?_
  refine ow_y (y_load F.sc9 rfl (by rfl)) ?_
  refine ow_y (y_move rfl) ?_
  refine ow_y (y_cutH F.st9 rfl rfl (by omega)) ?_
  refine ow_y (y_assign rfl) ?_
  refine ow_nil ?_
  refine kw_code (fun _ _ h => h) ?_
  refine cw_seq ?_
  refine cw_region ?_
  refine ow_y (y_move rfl) ?_
  refine ow_y (y_move rfl) ?_
  refine ow_y (y_nil rfl) ?_
  refine ow_y (y_fld F.fld262_0 rfl) ?_
  refine ow_y (y_load F.sc9 rfl (by rfl)) ?_
  refine ow_y (y_move rfl) ?_
  refine ow_y (y_cutL F.st9 rfl rfl (by omega)) ?_
  refine ow_y (y_nil rfl) ?_
  refine ow_y (y_fld F.fld262_0 rfl) ?_
  refine (ow_store F.sz9 rfl rfl (by first | rfl | assumption) (by rfl) (by (try simp only [List.set_cons_zero, List.set_cons_succ, Nat.reduceAdd, Nat.reduceMul, Int.reduceToNat, Nat.zero_add, Nat.add_zero]); rfl) ?_)
  refine ow_nil ?_
  refine kw_code (fun _ _ h => h) ?_
  refine cw_seq ?_
  refine cw_region ?_
  refine ow_y (y_move rfl) ?_
  refine ow_y (y_assign rfl) ?_
  refine ow_nil ?_
  refine kw_code (fun _ _ h => h) ?_
  refine cw_retG (fun _ _ h => h) rfl rfl aSp
theorem text_end (b : Nat) (s : ByteArray) (n : Nat) (hn : s.size < n) (hs : s.size ≤ 1000000) : Does Tryz.prog 156 #[.pointer (some ⟨b, 0, none⟩), .int .i64 n] [pin b s] (fun en L => en = .panicked (fault 2) ∧ L = [pin b s]) := by
  refine does_enter Tryz.func156 rfl Tryz.ntmps156 rfl (fun R w0 => ?_)
  simp only [envOf, List.cons_append, List.nil_append]
  refine cw_seq ?_
  refine cw_region ?_
  refine ow_y (y_assign rfl) ?_
  refine ow_nil ?_
  refine kw_code (fun _ _ h => h) ?_
  refine cw_seq ?_
  refine cw_block ?_
  refine cw_seq ?_
  refine cw_region ?_
  refine ow_y (y_move rfl) ?_
  refine ow_y (y_lss rfl rfl) ?_
  refine ow_y (y_assign rfl) ?_
  refine ow_nil ?_
  refine kw_code (fun _ _ h => h) ?_
  refine cw_false rfl (by first | rfl | exact decide_eq_false (by omega)) ?_
  refine cw_seq ?_
  refine cw_region ?_
  refine ow_y (y_move rfl) ?_
  refine ow_y (y_move rfl) ?_
  refine ow_y (y_nil rfl) ?_
  refine ow_y (y_fld F.fld262_0 rfl) ?_
  refine ow_y (y_load F.sc9 rfl (by rfl)) ?_
  refine ow_y (y_len_str F.st9 rfl) ?_
  refine ow_y (y_gtr rfl rfl) ?_
  refine ow_y (y_assign rfl) ?_
  refine ow_nil ?_
  refine kw_code (fun _ _ h => h) ?_
  refine cw_true rfl (by first | rfl | exact decide_eq_true (by omega)) ?_
  refine cw_region ?_
  refine ow_fails rfl F.hb29 rfl (fail_spec 2) aSp ?_
  simp only [List.cons_append, List.nil_append]
  repeat (first | with_reducible refine kw_inBlock_panic ?_ | with_reducible refine kw_then_panic ?_)
  refine kw_panic (fun _ _ h => h) (Split.back aSp) ⟨rfl, rfl⟩
theorem num_end (b : Nat) (s : ByteArray) (k : Nat) (hk : 1 ≤ k ∧ k ≤ 8) (hn : s.size < k) (hs : s.size ≤ 1000000) : Does Tryz.prog 155 #[.pointer (some ⟨b, 0, none⟩), .int .i64 k] [pin b s] (fun en L => en = .panicked (fault 2) ∧ L = [pin b s]) := by
  have hmm : min (max (k : Int) 1) 8 = k := by omega
  refine does_enter Tryz.func155 rfl Tryz.ntmps155 rfl (fun R w0 => ?_)
  simp only [envOf, List.cons_append, List.nil_append]
  refine cw_seq ?_
  refine cw_region ?_
  refine ow_y (y_assign rfl) ?_
  refine ow_nil ?_
  refine kw_code (fun _ _ h => h) ?_
  refine cw_seq ?_
  refine cw_region ?_
  refine ow_y (y_assign rfl) ?_
  refine ow_nil ?_
  refine kw_code (fun _ _ h => h) ?_
  refine cw_seq ?_
  refine cw_seq ?_
  refine cw_region ?_
  refine ow_y (y_move rfl) ?_
  refine ow_y (y_move rfl) ?_
  refine ow_y (y_max rfl rfl) ?_
  refine ow_y (y_min rfl rfl) ?_
  rw [hmm]
  refine ow_fails rfl F.hb156 rfl (text_end b s k hn hs) aSp ?_
  simp only [List.cons_append, List.nil_append]
  repeat (first | with_reducible refine kw_inBlock_panic ?_ | with_reducible refine kw_then_panic ?_)
  refine kw_panic (fun _ _ h => h) (Split.back aSp) ⟨rfl, rfl⟩
theorem num_ok (b : Nat) (s : ByteArray) (k : Nat) (hk : 1 ≤ k ∧ k ≤ 8) (hn : k ≤ s.size) (hs : s.size ≤ 1000000) :
    Does Tryz.prog 155 #[.pointer (some ⟨b, 0, none⟩), .int .i64 k] [pin b s] (Gives (.int .u64 (be (s.data.toList.take k) : Nat)) [pin b (s.extract k s.size)]) := by
  have hmm : min (max (k : Int) 1) 8 = k := by omega
  have hsz : (s.extract 0 k).size = k := by rw [ByteArray.size_extract]; omega
  have hdl : (s.extract 0 k).data.toList = s.data.toList.take k := by simp
  refine does_enter Tryz.func155 rfl Tryz.ntmps155 rfl (fun R w0 => ?_)
  simp only [envOf, List.cons_append, List.nil_append]
  refine cw_seq ?_
  refine cw_region ?_
  refine ow_y (y_assign rfl) ?_
  refine ow_nil ?_
  refine kw_code (fun _ _ h => h) ?_
  refine cw_seq ?_
  refine cw_region ?_
  refine ow_y (y_assign rfl) ?_
  refine ow_nil ?_
  refine kw_code (fun _ _ h => h) ?_
  refine cw_seq ?_
  refine cw_seq ?_
  refine cw_region ?_
  refine ow_y (y_move rfl) ?_
  refine ow_y (y_move rfl) ?_
  refine ow_y (y_max rfl rfl) ?_
  refine ow_y (y_min rfl rfl) ?_
  rw [hmm]
  refine ow_gives rfl F.hb156 rfl (text_ok b s k hn hs) aSp ?_
  try simp only [List.cons_append, List.nil_append]
  refine ow_bytes F.st9 F.sl74 F.by5 rfl (by rw [hsz]; simp only [maxLen]; omega) (fun b13 k13 hk13 hm13 => ?_)
  refine ow_y (y_len_slice F.sl74 rfl) ?_
  refine ow_y (y_move rfl) ?_
  refine ow_nil ?_
  refine kw_code (fun _ _ h => h) ?_
  refine cw_block ?_
  refine cw_loop (X := {i : Nat // i ≤ k}) (fun x => [(5, .int .u64 (be (s.data.toList.take x.1) : Nat)), (13, .slice (some ⟨b13, 0, none⟩) (s.extract 0 k).size k13), (14, .int .i64 (s.extract 0 k).size), (15, .int .i64 x.1)]) (fun x => [pts b13 (.cells (bytesL (s.extract 0 k) k13).toArray 5 (k13, k13 + 1)), pin b (s.extract k s.size), R]) (fun x => k - x.1) ⟨0, by omega⟩ (by repeat (first | exact Sub.nil | refine Sub.cons rfl ?_)) aSp ?_
  rintro ⟨i, hi⟩ m0 hm0
  try simp only at hm0
  try dsimp only
  skip
  refine cw_seq ?_
  refine cw_region ?_
  refine ow_y (y_lss rfl rfl) ?_
  refine ow_nil ?_
  refine kw_code (fun _ _ h => h) ?_
  refine cw_seq ?_
  refine cw_if rfl (fun hb16 => ?_) (fun hb16 => ?_)
  · skip
    have hik : i < k := by have := of_decide_eq_true hb16; omega
    have hil : i < s.data.toList.length := by have : s.data.toList.length = s.size := by simp
                                              omega
    have hck : (s.extract 0 k).data.toList[i]'(by simp; omega) = s.data.toList[i] := by simp
    refine cw_skip ?_
    refine kw_code (fun _ _ h => h) ?_
    refine cw_seq ?_
    refine cw_block ?_
    refine cw_seq ?_
    refine cw_region ?_
    refine ow_y (y_ixs F.sl74 rfl rfl (by omega)) ?_
    refine ow_y (y_load F.sc5 rfl (bytes_at (s.extract 0 k) k13 i (by omega) _ (by simp))) ?_
    refine ow_y (y_assign rfl) ?_
    refine ow_nil ?_
    rw [hck]
    refine kw_code (fun _ _ h => h) ?_
    refine cw_region ?_
    refine ow_y (y_move rfl) ?_
    refine ow_y (y_shl rfl rfl (by first | decide | (simp only [IntKind.bits]; omega))) ?_
    refine ow_y (y_move rfl) ?_
    refine ow_y (y_conv F.ts5 F.in161 rfl) ?_
    have hcl := (s.data.toList[i]).toNat_lt
    have hbb := be_bound s.data.toList i (by omega)
    rw [show IntKind.u64.wrap ((be (s.data.toList.take i) : Nat) * 2 ^ Int.toNat 8) = ((be (s.data.toList.take i) * 256 : Nat) : Int) from wrap_u64 _ _ (by simp) hbb, show IntKind.u64.wrap ((s.data.toList[i]).toNat : Int) = ((s.data.toList[i]).toNat : Int) from wrap_u64 _ _ rfl (by omega)]
    refine ow_y (y_or rfl rfl) ?_
    refine ow_y (y_assign rfl) ?_
    refine ow_nil ?_
    rw [or_u64 _ _ hbb (by omega), ← be_take _ _ hil]
    refine kw_code (fun _ _ h => h) ?_
    refine cw_region ?_
    refine ow_y (y_addI rfl rfl (by omega)) ?_
    refine ow_y (y_move rfl) ?_
    refine ow_nil ?_
    refine kw_rnd (fun _ _ h => h) (⟨i + 1, hik⟩) (by first | omega | (simp only; omega)) (by repeat (first | exact Sub.nil | refine Sub.cons rfl ?_)) aSp
  · skip
    have hik : i = k := by have := of_decide_eq_false hb16; omega
    subst hik
    refine cw_exit ?_
    refine kw_code (fun _ _ h => h) ?_
    refine cw_seq ?_
    refine cw_region ?_
    refine ow_y (y_move rfl) ?_
    refine ow_y (y_assign rfl) ?_
    refine ow_nil ?_
    refine kw_code (fun _ _ h => h) ?_
    refine cw_retG (fun _ _ h => h) rfl rfl aSp
end Go.Proofs.YthlclfdnhnnebaaGreatDoor
end
section
set_option maxRecDepth 4000
set_option maxHeartbeats 4000000
namespace Go.Proofs.YthlclfdnhnnebaaGreatDoor
open Go.Sl Go.Sb
abbrev bs (l : List UInt8) : ByteArray := ⟨l.toArray⟩
theorem bs_size (l : List UInt8) : (bs l).size = l.length := by show l.toArray.size = _; simp
theorem bs_list (l : List UInt8) : (bs l).data.toList = l := by simp
theorem ba_ext {a b : ByteArray} (h : a.data.toList = b.data.toList) : a = b := Go.WideShapes.bytes_inj h
theorem bs_drop (l : List UInt8) (k : Nat) : (bs l).extract k (bs l).size = bs (l.drop k) := by
  refine ba_ext ?_
  rw [bs_list, bs_size]
  simp only [ByteArray.data_extract, Array.toList_extract, List.extract_eq_take_drop]
  rw [List.take_of_length_le (by simp)]
theorem bs_take (l : List UInt8) (k : Nat) : (bs l).extract 0 k = bs (l.take k) := by
  refine ba_ext ?_
  rw [bs_list]
  simp
abbrev pinL (b : Nat) (l : List UInt8) : Asrt := pin b (bs l)
theorem numL_ok (b : Nat) (l : List UInt8) (k : Nat) (hk : 1 ≤ k ∧ k ≤ 8) (hn : k ≤ l.length) (hs : l.length ≤ 1000000) :
    Does Tryz.prog 155 #[.pointer (some ⟨b, 0, none⟩), .int .i64 k] [pinL b l] (Gives (.int .u64 (be (l.take k) : Nat)) [pinL b (l.drop k)]) := by
  have := num_ok b (bs l) k hk (by rw [bs_size]; exact hn) (by rw [bs_size]; exact hs)
  rw [bs_drop, bs_list] at this
  exact this
theorem numL_end (b : Nat) (l : List UInt8) (k : Nat) (hk : 1 ≤ k ∧ k ≤ 8) (hn : l.length < k) (hs : l.length ≤ 1000000) :
    Does Tryz.prog 155 #[.pointer (some ⟨b, 0, none⟩), .int .i64 k] [pinL b l] (fun en L => en = .panicked (fault 2) ∧ L = [pinL b l]) :=
  num_end b (bs l) k hk (by rw [bs_size]; exact hn) (by rw [bs_size]; exact hs)
theorem textL_ok (b : Nat) (l : List UInt8) (n : Nat) (hn : n ≤ l.length) (hs : l.length ≤ 1000000) : Does Tryz.prog 156 #[.pointer (some ⟨b, 0, none⟩), .int .i64 n] [pinL b l] (Gives (.string (bs (l.take n))) [pinL b (l.drop n)]) := by
  have := text_ok b (bs l) n (by rw [bs_size]; exact hn) (by rw [bs_size]; exact hs)
  rw [bs_drop, bs_take] at this
  exact this
end Go.Proofs.YthlclfdnhnnebaaGreatDoor
end
section
set_option maxRecDepth 4000
set_option maxHeartbeats 4000000
namespace Go.Proofs.YthlclfdnhnnebaaGreatDoor
open Go.Sl Go.Sb
theorem guard_ok (g : FuncId) (cap : List Value) (Pre N : List Asrt) (v : Value) (hb : hasBody Tryz.prog g = true) (hg : Does Tryz.prog g cap.toArray Pre (Gives v N)) :
    Does Tryz.prog 105 #[.func (.func g) #[] cap.toArray] Pre (Gives (.int .i64 0) N) := by
  refine Does.imp (guard_spec (X := Unit) (Y := Empty) g cap Pre (fun _ => True) (fun _ => v) (fun _ => N) (fun _ => True) (fun _ => 0) (fun _ => []) hb (Does.imp hg ?_)) ?_
  · rintro e L ⟨rfl, rfl⟩; exact .inl ⟨(), trivial, rfl, rfl⟩
  · rintro e L ⟨x | y, _, rfl, rfl⟩
    · exact ⟨rfl, rfl⟩
    · exact y.elim
theorem guard_err (g : FuncId) (cap : List Value) (Pre N : List Asrt) (er : Int) (hb : hasBody Tryz.prog g = true) (hg : Does Tryz.prog g cap.toArray Pre (fun en L => en = .panicked (fault er) ∧ L = N)) :
    Does Tryz.prog 105 #[.func (.func g) #[] cap.toArray] Pre (Gives (.int .i64 er) N) := by
  refine Does.imp (guard_spec (X := Empty) (Y := Unit) g cap Pre (fun _ => True) (fun _ => .int .i64 0) (fun _ => []) (fun _ => True) (fun _ => er) (fun _ => N) hb (Does.imp hg ?_)) ?_
  · rintro e L ⟨rfl, rfl⟩; exact .inr ⟨(), trivial, rfl, rfl⟩
  · rintro e L ⟨x | y, _, rfl, rfl⟩
    · exact x.elim
    · exact ⟨rfl, rfl⟩
abbrev pop (b : Nat) (cs : List Value) : Asrt := pts b (.cells cs.toArray 50 (0, 0))
end Go.Proofs.YthlclfdnhnnebaaGreatDoor
end
section
set_option maxRecDepth 4000
set_option maxHeartbeats 4000000
namespace Go.Proofs.YthlclfdnhnnebaaGreatDoor
open Go.Sl Go.Sb
theorem bs_cut (l : List UInt8) (i j : Nat) : (bs l).extract i j = bs ((l.take j).drop i) := by
  refine ba_ext ?_
  rw [bs_list]
  simp only [ByteArray.data_extract, Array.toList_extract, List.extract_eq_take_drop, bs_list]
  rw [List.drop_take]
end Go.Proofs.YthlclfdnhnnebaaGreatDoor
end
section
set_option maxRecDepth 4000
set_option maxHeartbeats 4000000
namespace Go.Proofs.YthlclfdnhnnebaaGreatDoor
open Go.Sl Go.Sb
abbrev pout (b : Nat) (v : Value) (l : List UInt8) : List Asrt := [pts b (.cells #[v] 186 (0, 0)), rowA 5 1 v l.length (l.map byteV)]
theorem beB_len (x k m : Nat) : (beB x k m).length = m := by
  induction m with
  | zero => rfl
  | succ m ih => simp [beB, ih]
theorem otext_spec (b : Nat) (v : Value) (l : List UInt8) (s : ByteArray) (hl : l.length ≤ 1000000) (hs : s.size ≤ 1000000) (h1 : v.oneCell' = true) :
    Does Tryz.prog 109 #[.pointer (some ⟨b, 0, none⟩), .string s] (pout b v l) (GivesE (fun v' : Value => v'.oneCell' = true) (fun _ => .pointer (some ⟨b, 0, none⟩)) (fun v' => pout b v' (l ++ s.data.toList))) := by
  have hsl : s.data.toList.length = s.size := by simp
  have hbl : (byteCells s) = s.data.toList.map byteV := rfl
  refine does_enter Tryz.func109 rfl Tryz.ntmps109 rfl (fun R w0 => ?_)
  simp only [envOf, List.cons_append, List.nil_append]
  refine cw_seq ?_
  refine cw_region ?_
  refine ow_y (y_assign rfl) ?_
  refine ow_nil ?_
  refine kw_code (fun _ _ h => h) ?_
  refine cw_seq ?_
  refine cw_region ?_
  refine ow_y (y_move rfl) ?_
  refine ow_y (y_move rfl) ?_
  refine ow_y (y_nil rfl) ?_
  refine ow_y (y_fld F.fld186_0 rfl) ?_
  refine ow_y (y_load F.sc74 rfl (by rfl)) ?_
  refine ow_y (y_move rfl) ?_
  refine (ow_append F.sl74 F.tb5 F.z5 rfl rfl rfl aFd (src_str F.st9) (by simp only [maxLen]; omega) (by omega) (fun v11 hv11 => ?_))
  refine ow_y (y_nil rfl) ?_
  refine ow_y (y_fld F.fld186_0 rfl) ?_
  refine (ow_store F.sz74 rfl rfl (by first | rfl | assumption) (by rfl) (by (try simp only [List.set_cons_zero, List.set_cons_succ, Nat.reduceAdd, Nat.reduceMul, Int.reduceToNat, Nat.zero_add, Nat.add_zero]); rfl) ?_)
  refine ow_nil ?_
  rw [hbl, ← List.map_append, ← hsl, ← List.length_append]
  refine kw_code (fun _ _ h => h) ?_
  refine cw_seq ?_
  refine cw_region ?_
  refine ow_y (y_move rfl) ?_
  refine ow_y (y_assign rfl) ?_
  refine ow_nil ?_
  refine kw_code (fun _ _ h => h) ?_
  refine cw_retE v11 hv11 (fun _ _ h => h) rfl rfl aSp
theorem byte_at (x k m : Nat) (h : m < k) : IntKind.u8.wrap ((x : Int) / 2 ^ (8 * ((k : Int) - 1 - (m : Int))).toNat) = ((UInt8.ofNat (x / 256 ^ (k - 1 - m))).toNat : Int) := by
  have e1 : (8 * ((k : Int) - 1 - (m : Int))).toNat = 8 * (k - 1 - m) := by omega
  have e2 : (2 : Int) ^ (8 * (k - 1 - m)) = ((256 ^ (k - 1 - m) : Nat) : Int) := by rw [Int.pow_mul]; norm_cast
  rw [e1, e2, IntKind.wrap_u8, UInt8.toNat_ofNat', ← Int.natCast_ediv]
  omega
theorem onum_spec (b : Nat) (v : Value) (l : List UInt8) (x k : Nat) (hk : 1 ≤ k ∧ k ≤ 8) (hl : l.length ≤ 1000000) (h1 : v.oneCell' = true) (hx : x < 18446744073709551616) :
    Does Tryz.prog 108 #[.pointer (some ⟨b, 0, none⟩), .int .u64 x, .int .i64 k] (pout b v l) (GivesE (fun v' : Value => v'.oneCell' = true) (fun _ => .pointer (some ⟨b, 0, none⟩)) (fun v' => pout b v' (l ++ beB x k k))) := by
  have hmm : min (max (k : Int) 1) 8 = k := by omega
  refine does_enter Tryz.func108 rfl Tryz.ntmps108 rfl (fun R w0 => ?_)
  simp only [envOf, List.cons_append, List.nil_append]
  refine cw_seq ?_
  refine cw_region ?_
  refine ow_y (y_assign rfl) ?_
  refine ow_nil ?_
  refine kw_code (fun _ _ h => h) ?_
  refine cw_seq ?_
  refine cw_region ?_
  refine ow_y (y_move rfl) ?_
  refine ow_y (y_max rfl rfl) ?_
  refine ow_y (y_min rfl rfl) ?_
  refine ow_y (y_assign rfl) ?_
  refine ow_nil ?_
  rw [hmm]
  refine kw_code (fun _ _ h => h) ?_
  refine cw_seq ?_
  refine cw_seq ?_
  refine cw_region ?_
  refine ow_y (y_move rfl) ?_
  refine ow_y (y_subI rfl rfl (by omega)) ?_
  refine ow_y (y_assign rfl) ?_
  refine ow_nil ?_
  refine kw_code (fun _ _ h => h) ?_
  refine cw_block ?_
  rw [show (k : Int) - 1 = (k : Int) - 1 - ((0 : Nat) : Int) from by omega]
  refine cw_eqL (L' := pout b v (l ++ beB x k 0) ++ [R]) (by simp [beB]) ?_
  refine cw_loop (X := {y : Nat × Value // y.1 ≤ k ∧ y.2.oneCell' = true}) (fun y => [(0, .pointer (some ⟨b, 0, none⟩)), (1, .int .u64 x), (7, .int .i64 ((k : Int) - 1 - y.1.1))]) (fun y => pout b y.1.2 (l ++ beB x k y.1.1) ++ [R]) (fun y => k - y.1.1) ⟨(0, v), by omega, h1⟩ (by repeat (first | exact Sub.nil | refine Sub.cons rfl ?_)) aSp ?_
  rintro ⟨⟨m, v⟩, hm, hv⟩ m0 hm0
  try simp only at hm0
  try dsimp only
  simp only at hm hv
  simp only [List.cons_append, List.nil_append]
  have hlen : (l ++ beB x k m).length = l.length + m := by rw [List.length_append, beB_len]
  refine cw_seq ?_
  refine cw_seq ?_
  refine cw_region ?_
  refine ow_y (y_move rfl) ?_
  refine ow_y (y_geq rfl rfl) ?_
  refine ow_nil ?_
  refine kw_code (fun _ _ h => h) ?_
  refine cw_if rfl (fun hb14 => ?_) (fun hb14 => ?_)
  · skip
    have hmk : m < k := by have := of_decide_eq_true hb14; omega
    have hby := byte_at x k m hmk
    refine cw_skip ?_
    refine kw_code (fun _ _ h => h) ?_
    refine cw_seq ?_
    refine cw_block ?_
    refine cw_float (.soft 0 (.soft 1 (.soft 2 (.soft 3 (.soft 5 (.soft 6 (.soft 7 (.soft 8 (.soft 9 (.float 10 (.hard 4 (.res (.hard 11 (.soft 12 (.soft 13 (.hard 14 .done)))))))))))))))) [] F.fol (by kernel_rfl) (by repeat (first | with_reducible exact NoSlots.bp | with_reducible apply NoSlots.then | with_reducible apply NoSlots.inBlock)) aSp ?_
    refine omf_y rfl (y_move rfl) ?_
    refine omf_y rfl (y_move rfl) ?_
    refine omf_y rfl (y_nil rfl) ?_
    refine omf_y rfl (y_fld F.fld186_0 rfl) ?_
    refine omf_y rfl (y_move rfl) ?_
    refine omf_y rfl (y_move rfl) ?_
    refine omf_y rfl (y_mulI rfl rfl (by omega)) ?_
    refine omf_y rfl (y_shr rfl rfl (by first | decide | (simp only [IntKind.bits]; omega))) ?_
    refine omf_y rfl (y_conv F.ts161 F.in5 rfl) ?_
    refine omf_fbuildSlice (e0 := [(26, _)]) rfl (by repeat (first | exact Sub.nil | refine Sub.cons rfl ?_)) (fun _ _ _ => rfl) F.sl74 F.z5 rfl rfl rfl (by simp [fillL, madeL, Value.cells] <;> rfl) rfl ?_
    refine omf_hard rfl (fun hok EE FF => ?_)
    simp only [List.cons_append, List.nil_append]
    refine ow_y (y_load F.sc74 rfl (by rfl)) ?_
    refine ow_nil ?_
    refine omf_next (E := EE) (F := FF) (by repeat (first | exact Tl.nil | apply Tl.cons)) aFd aSp (hok.put rfl) ?_
    refine omf_res (fun b27 => ?_)
    dsimp only
    refine omf_hard rfl (fun hok EE FF => ?_)
    simp only [List.cons_append, List.nil_append]
    refine (ow_append F.sl74 F.tb5 F.z5 rfl rfl rfl aFd (src_blk F.sl74 (by simp; rfl) (by simp) (by simp [Value.oneCell'])) (by simp only [maxLen]; omega) (by omega) (fun v28 hv28 => ?_))
    refine ow_nil ?_
    refine omf_next (E := EE) (F := FF) (by repeat (first | exact Tl.nil | apply Tl.cons)) aFd aSp (hok.put rfl) ?_
    refine omf_y rfl (y_nil rfl) ?_
    refine omf_y rfl (y_fld F.fld186_0 rfl) ?_
    refine omf_hard rfl (fun hok EE FF => ?_)
    simp only [List.cons_append, List.nil_append]
    refine (ow_store F.sz74 rfl rfl (by first | rfl | assumption) (by rfl) (by (try simp only [List.set_cons_zero, List.set_cons_succ, Nat.reduceAdd, Nat.reduceMul, Int.reduceToNat, Nat.zero_add, Nat.add_zero]); rfl) ?_)
    refine ow_nil ?_
    refine omf_next (E := EE) (F := FF) (by repeat (first | exact Tl.nil | apply Tl.cons)) aFd aSp hok ?_
    refine omf_nil ?_
    rw [hby]
    have e : (l ++ beB x k m).map byteV ++ [Value.int .u8 ((UInt8.ofNat (x / 256 ^ (k - 1 - m))).toNat : Int)] = (l ++ beB x k (m + 1)).map byteV := by simp [beB, byteV]
    rw [e, show (l ++ beB x k m).length + 1 = (l ++ beB x k (m + 1)).length from by simp only [List.length_append, beB_len]; omega]
    refine kw_code (fun _ _ h => h) ?_
    refine cw_region ?_
    refine ow_y (y_move rfl) ?_
    refine ow_y (y_subI rfl rfl (by omega)) ?_
    refine ow_y (y_assign rfl) ?_
    refine ow_nil ?_
    rw [show (k : Int) - 1 - (m : Int) - 1 = (k : Int) - 1 - ((m + 1 : Nat) : Int) from by omega]
    refine kw_rnd (fun _ _ h => h) (⟨(m + 1, v28), hmk, hv28⟩) (by first | omega | (simp only; omega)) (by repeat (first | exact Sub.nil | refine Sub.cons rfl ?_)) aSp
  · skip
    have hmk : m = k := by have := of_decide_eq_false hb14; omega
    subst hmk
    refine cw_exit ?_
    refine kw_code (fun _ _ h => h) ?_
    refine cw_seq ?_
    refine cw_region ?_
    refine ow_y (y_move rfl) ?_
    refine ow_y (y_assign rfl) ?_
    refine ow_nil ?_
    refine kw_code (fun _ _ h => h) ?_
    refine cw_retE v hv (fun _ _ h => h) rfl rfl aSp
end Go.Proofs.YthlclfdnhnnebaaGreatDoor
end
section
set_option maxRecDepth 4000
set_option maxHeartbeats 4000000
namespace Go.Proofs.YthlclfdnhnnebaaGreatDoor
open Go.Sl Go.Sb
theorem obytes_spec (b : Nat) (v : Value) (l : List UInt8) (h1 : v.oneCell' = true) : Does Tryz.prog 110 #[.pointer (some ⟨b, 0, none⟩)] (pout b v l) (Gives (.string (bs l)) []) := by
  refine does_enter Tryz.func110 rfl Tryz.ntmps110 rfl (fun R w0 => ?_)
  simp only [envOf, List.cons_append, List.nil_append]
  refine cw_seq ?_
  refine cw_region ?_
  refine ow_y (y_assign rfl) ?_
  refine ow_nil ?_
  refine kw_code (fun _ _ h => h) ?_
  refine cw_seq ?_
  refine cw_region ?_
  refine ow_y (y_move rfl) ?_
  refine ow_y (y_nil rfl) ?_
  refine ow_y (y_fld F.fld186_0 rfl) ?_
  refine ow_y (y_load F.sc74 rfl (by rfl)) ?_
  refine ow_y (y_textRow F.sl74 F.st9 F.by5 rfl aFd) ?_
  refine ow_y (y_assign rfl) ?_
  refine ow_nil ?_
  refine kw_code (fun _ _ h => h) ?_
  refine cw_retG (fun _ _ h => h) rfl rfl aSp
end Go.Proofs.YthlclfdnhnnebaaGreatDoor
end
section
namespace Go.Proofs.YthlclfdnhnnebaaGreatDoor
open Go
end Go.Proofs.YthlclfdnhnnebaaGreatDoor
end
section
namespace Go.Proofs.YthlclfdnhnnebaaGreatDoor
open Go
theorem F.ar196 : Sl.tyArray Tryz.prog 196 3 3 1 = true := by kernel_rfl
theorem F.fld198_0 : Sl.tyField Tryz.prog 198 0 0 = true := by kernel_rfl
theorem F.fld198_1 : Sl.tyField Tryz.prog 198 1 1 = true := by kernel_rfl
theorem F.fld198_2 : Sl.tyField Tryz.prog 198 2 2 = true := by kernel_rfl
theorem F.hb142 : Sl.hasBody Tryz.prog 142 = true := by kernel_rfl
theorem F.hb179 : Sl.hasBody Tryz.prog 179 = true := by kernel_rfl
theorem F.hb213 : Sl.hasBody Tryz.prog 213 = true := by kernel_rfl
theorem F.pl198 : Sl.tyPlaces Tryz.prog 198 = some ([(0, 1), (1, 1), (2, 3)], .agg #[.int .i64 (0), .slice none 0 0, .int .i64 (0), .int .i64 (0), .int .i64 (0)]) := by kernel_rfl
end Go.Proofs.YthlclfdnhnnebaaGreatDoor
end
section
namespace Go.Proofs.YthlclfdnhnnebaaGreatDoor
open Go
end Go.Proofs.YthlclfdnhnnebaaGreatDoor
end
section
set_option maxRecDepth 4000
set_option maxHeartbeats 4000000
namespace Go.Proofs.YthlclfdnhnnebaaGreatDoor
open Go.Sl Go.Sb
def gst (s : Nat) : Value := .int .i64 s
def gcells (fr bl : Nat) (l : List Nat) : List Value := [.int .i64 fr, .slice (some ⟨bl, 0, none⟩) l.length l.length, .int .i64 (l.count 0), .int .i64 (l.count 1), .int .i64 (l.count 2)]
abbrev gm (b bl fr : Nat) (l : List Nat) : List Asrt := [pts b (.cells (gcells fr bl l).toArray 198 (0, 0)), pts bl (.cells (l.map gst).toArray 3 (0, 0))]
theorem gst_at {l : List Nat} {i k s : Nat} (hs : l[i]? = some s) (hk : k = i) : nth (l.map gst) k = some (.int .i64 s) := by
  subst hk; rw [nth_eq]; simp [hs, gst]
theorem gset_spec (b bl fr i s what : Nat) (l : List Nat) (at_ : Int) (hat : at_ = fr + i) (hs : l[i]? = some s) (hs3 : s < 3) (hw3 : what < 3) (hfr : fr ≤ 5000) (hl : l.length ≤ 5000) :
    Does Tryz.prog 142 #[.pointer (some ⟨b, 0, none⟩), .int .i64 at_, .int .i64 what] (gm b bl fr l) (fun e L => e = .returned (.tuple #[]) ∧ L = gm b bl fr (l.set i what)) := by
  have hi : i < l.length := by
    rcases Nat.lt_or_ge i l.length with h | h
    · exact h
    · rw [List.getElem?_eq_none h] at hs; cases hs
  have c0 : l.count 0 ≤ l.length := List.count_le_length
  have c1 : l.count 1 ≤ l.length := List.count_le_length
  have c2 : l.count 2 ≤ l.length := List.count_le_length
  have hsub : at_ - (fr : Int) = i := by omega
  have hti : (at_ - (fr : Int)).toNat = i := by omega
  have s3 : s = 0 ∨ s = 1 ∨ s = 2 := by omega
  have w3 : what = 0 ∨ what = 1 ∨ what = 2 := by omega
  have hs' : l[i] = s := by rw [List.getElem?_eq_getElem hi] at hs; exact Option.some.inj hs
  have hpos : 0 < l.count s := List.count_pos_iff.2 (hs' ▸ List.getElem_mem hi)
  have hset := fun k => List.count_set (a := what) (b := k) hi
  rw [hs'] at hset
  have hmap : (l.map gst).set (0 + (at_ - (fr : Int)).toNat * 1) (.int .i64 what) = (l.set i what).map gst := by
    rw [hti, Nat.zero_add, Nat.mul_one, List.map_set]; rfl
  have he : ((l.count s - 1 : Nat) : Int) = (l.count s : Int) - 1 := by omega
  rcases s3 with rfl | rfl | rfl <;> rcases w3 with rfl | rfl | rfl
  all_goals
    refine does_enter Tryz.func142 rfl Tryz.ntmps142 rfl (fun R w0 => ?_)
    simp only [envOf, List.cons_append, List.nil_append, gm, gcells]
    refine cw_seq ?_
    refine cw_tail 20 F.fol (by kernel_rfl) ?_
    simp only [List.take_succ_cons, List.take_zero, List.drop_succ_cons, List.drop_zero]
    refine os_y (y_move rfl) ?_
    refine os_y (y_move rfl) ?_
    refine os_y (y_nil rfl) ?_
    refine os_y (y_fld F.fld198_1 rfl) ?_
    refine os_y (y_load F.sc109 rfl (by rfl)) ?_
    refine os_y (y_move rfl) ?_
    refine os_y (y_move rfl) ?_
    refine os_y (y_nil rfl) ?_
    refine os_y (y_fld F.fld198_0 rfl) ?_
    refine os_y (y_load F.sc3 rfl (by rfl)) ?_
    refine os_y (y_subI rfl rfl (by omega)) ?_
    refine os_y (y_ixs F.sl109 rfl rfl (by omega)) ?_
    refine os_y (y_load F.sc3 rfl (gst_at hs (by omega))) ?_
    refine os_y (y_nil rfl) ?_
    refine os_y (y_fld F.fld198_2 rfl) ?_
    refine os_y (y_ixa F.ar196 rfl rfl (by decide)) ?_
    refine os_y (y_load F.sc3 rfl (by rfl)) ?_
    refine os_y (y_subI rfl rfl (by omega)) ?_
    refine os_y (y_nil rfl) ?_
    refine os_y (y_fld F.fld198_2 rfl) ?_
    refine os_nil ?_
    refine ow_y (y_ixa F.ar196 rfl rfl (by decide)) ?_
    refine (ow_store F.sz3 rfl rfl (by first | rfl | assumption) (by rfl) (by (try simp only [List.set_cons_zero, List.set_cons_succ, Nat.reduceAdd, Nat.reduceMul, Int.reduceToNat, Nat.zero_add, Nat.add_zero]); rfl) ?_)
    refine ow_nil ?_
    refine kw_code (fun _ _ h => h) ?_
    refine cw_seq ?_
    refine cw_tail 11 F.fol (by kernel_rfl) ?_
    simp only [List.take_succ_cons, List.take_zero, List.drop_succ_cons, List.drop_zero]
    refine os_y (y_move rfl) ?_
    refine os_y (y_nil rfl) ?_
    refine os_y (y_fld F.fld198_1 rfl) ?_
    refine os_y (y_load F.sc109 rfl (by rfl)) ?_
    refine os_y (y_move rfl) ?_
    refine os_y (y_move rfl) ?_
    refine os_y (y_nil rfl) ?_
    refine os_y (y_fld F.fld198_0 rfl) ?_
    refine os_y (y_load F.sc3 rfl (by rfl)) ?_
    refine os_y (y_subI rfl rfl (by omega)) ?_
    refine os_y (y_move rfl) ?_
    refine os_nil ?_
    refine ow_y (y_ixs F.sl109 rfl rfl (by omega)) ?_
    refine (ow_store F.sz3 rfl rfl rfl (by simp; omega) (by rfl) ?_)
    refine ow_nil ?_
    refine kw_code (fun _ _ h => h) ?_
    refine cw_tail 9 F.fol (by kernel_rfl) ?_
    simp only [List.take_succ_cons, List.take_zero, List.drop_succ_cons, List.drop_zero]
    refine os_y (y_move rfl) ?_
    refine os_y (y_move rfl) ?_
    refine os_y (y_nil rfl) ?_
    refine os_y (y_fld F.fld198_2 rfl) ?_
    refine os_y (y_ixa F.ar196 rfl rfl (by decide)) ?_
    refine os_y (y_load F.sc3 rfl (by rfl)) ?_
    refine os_y (y_addI rfl rfl (by omega)) ?_
    refine os_y (y_nil rfl) ?_
    refine os_y (y_fld F.fld198_2 rfl) ?_
    refine os_nil ?_
    refine ow_y (y_ixa F.ar196 rfl rfl (by decide)) ?_
    refine (ow_store F.sz3 rfl rfl (by first | rfl | assumption) (by rfl) (by (try simp only [List.set_cons_zero, List.set_cons_succ, Nat.reduceAdd, Nat.reduceMul, Int.reduceToNat, Nat.zero_add, Nat.add_zero]); rfl) ?_)
    refine ow_nil ?_
    refine kw_fin rfl (L' := [_, _]) (by repeat (first | exact Split.nil | refine Split.cons Fnd.here ?_)) ⟨rfl, ?_⟩
    rw [hmap]
    simp [hset, he]
end Go.Proofs.YthlclfdnhnnebaaGreatDoor
end
