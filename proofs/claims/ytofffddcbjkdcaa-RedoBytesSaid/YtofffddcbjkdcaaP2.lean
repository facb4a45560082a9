/- Part of the proof; no statement of its own: P2. -/
import Derived.Test.YtofffddcbjkdcaaP1
set_option linter.all false
namespace Go.Proofs.Ytofffddcbjkdcaa
open Go.Sl
abbrev pin (b : Nat) (s : ByteArray) : Asrt := pts b (.cells #[.string s] 86 (0, 0))
/-- bytes as a number, the highest first -/
def be (l : List UInt8) : Nat := l.foldl (fun n c => n * 256 + c.toNat) 0
theorem be_take (l : List UInt8) (i : Nat) (h : i < l.length) : be (l.take (i + 1)) = be (l.take i) * 256 + l[i].toNat := by
  simp only [be]
  rw [List.take_succ, List.getElem?_eq_getElem h, List.foldl_append]; rfl
theorem be_lt (l : List UInt8) : be l < 256 ^ l.length := by
  have : ∀ (l : List UInt8) (n : Nat), l.foldl (fun n c => n * 256 + c.toNat) n < (n + 1) * 256 ^ l.length := by
    intro l
    induction l with
    | nil => intro n; simp
    | cons c l ih =>
      intro n
      have h1 := ih (n * 256 + c.toNat)
      have hc := c.toNat_lt
      simp only [List.foldl_cons, List.length_cons, Nat.pow_succ]
      refine Nat.lt_of_lt_of_le h1 ?_
      rw [Nat.mul_comm (256 ^ l.length) 256, ← Nat.mul_assoc]
      exact Nat.mul_le_mul_right _ (by omega)
  simpa [be] using this l 0
theorem be_bound (l : List UInt8) (i : Nat) (hi : i < 8) : be (l.take i) * 256 < 18446744073709551616 := by
  have h1 := be_lt (l.take i)
  have h2 : (l.take i).length ≤ 7 := by simp; omega
  have h3 : 256 ^ (l.take i).length ≤ 256 ^ 7 := Nat.pow_le_pow_right (by decide) h2
  omega
theorem wrap_u64 (x : Int) (n : Nat) (h : x = n) (hn : n < 18446744073709551616) : IntKind.u64.wrap x = (n : Int) := by
  subst h
  simp only [IntKind.wrap, IntKind.bits, IntKind.signed, Bool.false_and, Bool.false_eq_true, if_false]
  exact Int.emod_eq_of_lt (Int.natCast_nonneg _) (by omega)
theorem read_spec (s : ByteArray) : Does Try.prog 47 #[.string s] [] (GivesE (fun _ : Nat => True) (fun b => .pointer (some ⟨b, 0, none⟩)) (fun b => [pin b s])) := by
  refine does_enter Try.func47 rfl Try.ntmps47 rfl (fun R w0 => ?_)
  simp only [envOf, List.cons_append, List.nil_append]
  refine cw_seq ?_
  refine cw_region ?_
  refine ow_y (y_assign rfl) ?_
  refine ow_nil ?_
  refine kw_code (fun _ _ h => h) ?_
  refine cw_seq ?_
  refine cw_region ?_
  refine ow_y (y_move rfl) ?_
  refine ow_y (y_build F.pl86 rfl (by simp [fillL, nth, Value.cells] <;> rfl)) ?_
  refine (ow_box rfl (fun b5 => ?_))
  refine ow_y (y_assign rfl) ?_
  refine ow_nil ?_
  refine kw_code (fun _ _ h => h) ?_
  refine cw_retE b5 trivial (fun _ _ h => h) rfl rfl (by repeat (first | exact Split.nil | apply Split.cons (by repeat (first | exact Fnd.here | apply Fnd.there))))
theorem left_spec (b : Nat) (s : ByteArray) : Does Try.prog 51 #[.pointer (some ⟨b, 0, none⟩)] [pin b s] (Gives (.int .i64 s.size) [pin b s]) := by
  refine does_enter Try.func51 rfl Try.ntmps51 rfl (fun R w0 => ?_)
  simp only [envOf, List.cons_append, List.nil_append]
  refine cw_seq ?_
  refine cw_region ?_
  refine ow_y (y_assign rfl) ?_
  refine ow_nil ?_
  refine kw_code (fun _ _ h => h) ?_
  refine cw_seq ?_
  refine cw_region ?_
  refine ow_y (y_move rfl) ?_
  refine ow_y (y_nil rfl) ?_
  refine ow_y (y_fld F.fld86_0 rfl) ?_
  refine ow_y (y_load F.sc9 rfl (by rfl)) ?_
  refine ow_y (y_len_str F.st9 rfl) ?_
  refine ow_y (y_assign rfl) ?_
  refine ow_nil ?_
  refine kw_code (fun _ _ h => h) ?_
  refine cw_retG (fun _ _ h => h) rfl rfl (by repeat (first | exact Split.nil | apply Split.cons (by repeat (first | exact Fnd.here | apply Fnd.there))))
theorem text_ok (b : Nat) (s : ByteArray) (n : Nat) (hn : n ≤ s.size) (hs : s.size ≤ 1000000) : Does Try.prog 50 #[.pointer (some ⟨b, 0, none⟩), .int .i64 n] [pin b s] (Gives (.string (s.extract 0 n)) [pin b (s.extract n s.size)]) := by
  refine does_enter Try.func50 rfl Try.ntmps50 rfl (fun R w0 => ?_)
  simp only [envOf, List.cons_append, List.nil_append]
  refine cw_seq ?_
  refine cw_region ?_
  refine ow_y (y_assign rfl) ?_
  refine ow_nil ?_
  refine kw_code (fun _ _ h => h) ?_
  refine cw_seq ?_
  refine cw_block ?_
  refine cw_seq ?_
  refine cw_region ?_
  refine ow_y (y_move rfl) ?_
  refine ow_y (y_lss rfl rfl) ?_
  refine ow_y (y_assign rfl) ?_
  refine ow_nil ?_
  refine kw_code (fun _ _ h => h) ?_
  refine cw_false rfl (by first | rfl | exact decide_eq_false (by omega)) ?_
  refine cw_seq ?_
  refine cw_region ?_
  refine ow_y (y_move rfl) ?_
  refine ow_y (y_move rfl) ?_
  refine ow_y (y_nil rfl) ?_
  refine ow_y (y_fld F.fld86_0 rfl) ?_
  refine ow_y (y_load F.sc9 rfl (by rfl)) ?_
  refine ow_y (y_len_str F.st9 rfl) ?_
  refine ow_y (y_gtr rfl rfl) ?_
  refine ow_y (y_assign rfl) ?_
  refine ow_nil ?_
  refine kw_code (fun _ _ h => h) ?_
  refine cw_false rfl (by first | rfl | exact decide_eq_false (by omega)) ?_
  refine cw_skip ?_
  refine kw_code (fun _ _ h => h) ?_
  refine cw_seq ?_
  refine cw_region ?_
  refine ow_y (y_move rfl) ?_
  refine ow_y (y_nil rfl) ?_
  refine ow_y (y_fld F.fld86_0 rfl) ?_
  refine ow_y (y_load F.sc9 rfl (by rfl)) ?_
  refine ow_y (y_move rfl) ?_
  refine ow_y (y_cutH F.st9 rfl rfl (by omega)) ?_
  refine ow_y (y_assign rfl) ?_
  refine ow_nil ?_
  refine kw_code (fun _ _ h => h) ?_
  refine cw_seq ?_
  refine cw_region ?_
  refine ow_y (y_move rfl) ?_
  refine ow_y (y_move rfl) ?_
  refine ow_y (y_nil rfl) ?_
  refine ow_y (y_fld F.fld86_0 rfl) ?_
  refine ow_y (y_load F.sc9 rfl (by rfl)) ?_
  refine ow_y (y_move rfl) ?_
  refine ow_y (y_cutL F.st9 rfl rfl (by omega)) ?_
  refine ow_y (y_nil rfl) ?_
  refine ow_y (y_fld F.fld86_0 rfl) ?_
  refine (ow_store F.sz9 rfl rfl (by first | rfl | assumption) (by rfl) (by (try simp only [List.set_cons_zero, List.set_cons_succ, Nat.reduceAdd, Nat.reduceMul, Int.reduceToNat, Nat.zero_add, Nat.add_zero]); rfl) ?_)
  refine ow_nil ?_
  refine kw_code (fun _ _ h => h) ?_
  refine cw_seq ?_
  refine cw_region ?_
  refine ow_y (y_move rfl) ?_
  refine ow_y (y_assign rfl) ?_
  refine ow_nil ?_
  refine kw_code (fun _ _ h => h) ?_
  refine cw_retG (fun _ _ h => h) rfl rfl (by repeat (first | exact Split.nil | apply Split.cons (by repeat (first | exact Fnd.here | apply Fnd.there))))
theorem text_end (b : Nat) (s : ByteArray) (n : Nat) (hn : s.size < n) (hs : s.size ≤ 1000000) : Does Try.prog 50 #[.pointer (some ⟨b, 0, none⟩), .int .i64 n] [pin b s] (fun en L => en = .panicked (fault 2) ∧ L = [pin b s]) := by
  refine does_enter Try.func50 rfl Try.ntmps50 rfl (fun R w0 => ?_)
  simp only [envOf, List.cons_append, List.nil_append]
  refine cw_seq ?_
  refine cw_region ?_
  refine ow_y (y_assign rfl) ?_
  refine ow_nil ?_
  refine kw_code (fun _ _ h => h) ?_
  refine cw_seq ?_
  refine cw_block ?_
  refine cw_seq ?_
  refine cw_region ?_
  refine ow_y (y_move rfl) ?_
  refine ow_y (y_lss rfl rfl) ?_
  refine ow_y (y_assign rfl) ?_
  refine ow_nil ?_
  refine kw_code (fun _ _ h => h) ?_
  refine cw_false rfl (by first | rfl | exact decide_eq_false (by omega)) ?_
  refine cw_seq ?_
  refine cw_region ?_
  refine ow_y (y_move rfl) ?_
  refine ow_y (y_move rfl) ?_
  refine ow_y (y_nil rfl) ?_
  refine ow_y (y_fld F.fld86_0 rfl) ?_
  refine ow_y (y_load F.sc9 rfl (by rfl)) ?_
  refine ow_y (y_len_str F.st9 rfl) ?_
  refine ow_y (y_gtr rfl rfl) ?_
  refine ow_y (y_assign rfl) ?_
  refine ow_nil ?_
  refine kw_code (fun _ _ h => h) ?_
  refine cw_true rfl (by first | rfl | exact decide_eq_true (by omega)) ?_
  refine cw_region ?_
  refine ow_fails rfl F.hb49 rfl (fail_spec 2) (by repeat (first | exact Split.nil | apply Split.cons (by repeat (first | exact Fnd.here | apply Fnd.there)))) ?_
  simp only [List.cons_append, List.nil_append]
  repeat (first | with_reducible refine kw_inBlock_panic ?_ | with_reducible refine kw_then_panic ?_)
  refine kw_panic (fun _ _ h => h) (Split.back (by repeat (first | exact Split.nil | apply Split.cons (by repeat (first | exact Fnd.here | apply Fnd.there))))) ⟨rfl, rfl⟩
theorem num_end (b : Nat) (s : ByteArray) (k : Nat) (hk : 1 ≤ k ∧ k ≤ 8) (hn : s.size < k) (hs : s.size ≤ 1000000) : Does Try.prog 48 #[.pointer (some ⟨b, 0, none⟩), .int .i64 k] [pin b s] (fun en L => en = .panicked (fault 2) ∧ L = [pin b s]) := by
  have hmm : min (max (k : Int) 1) 8 = k := by omega
  refine does_enter Try.func48 rfl Try.ntmps48 rfl (fun R w0 => ?_)
  simp only [envOf, List.cons_append, List.nil_append]
  refine cw_seq ?_
  refine cw_region ?_
  refine ow_y (y_assign rfl) ?_
  refine ow_nil ?_
  refine kw_code (fun _ _ h => h) ?_
  refine cw_seq ?_
  refine cw_region ?_
  refine ow_y (y_assign rfl) ?_
  refine ow_nil ?_
  refine kw_code (fun _ _ h => h) ?_
  refine cw_seq ?_
  refine cw_seq ?_
  refine cw_region ?_
  refine ow_y (y_move rfl) ?_
  refine ow_y (y_move rfl) ?_
  refine ow_y (y_max rfl rfl) ?_
  refine ow_y (y_min rfl rfl) ?_
  rw [hmm]
  refine ow_fails rfl F.hb50 rfl (text_end b s k hn hs) (by repeat (first | exact Split.nil | apply Split.cons (by repeat (first | exact Fnd.here | apply Fnd.there)))) ?_
  simp only [List.cons_append, List.nil_append]
  repeat (first | with_reducible refine kw_inBlock_panic ?_ | with_reducible refine kw_then_panic ?_)
  refine kw_panic (fun _ _ h => h) (Split.back (by repeat (first | exact Split.nil | apply Split.cons (by repeat (first | exact Fnd.here | apply Fnd.there))))) ⟨rfl, rfl⟩
theorem num_ok (b : Nat) (s : ByteArray) (k : Nat) (hk : 1 ≤ k ∧ k ≤ 8) (hn : k ≤ s.size) (hs : s.size ≤ 1000000) :
    Does Try.prog 48 #[.pointer (some ⟨b, 0, none⟩), .int .i64 k] [pin b s] (Gives (.int .u64 (be (s.data.toList.take k) : Nat)) [pin b (s.extract k s.size)]) := by
  have hmm : min (max (k : Int) 1) 8 = k := by omega
  have hsz : (s.extract 0 k).size = k := by rw [ByteArray.size_extract]; omega
  have hdl : (s.extract 0 k).data.toList = s.data.toList.take k := by simp
  refine does_enter Try.func48 rfl Try.ntmps48 rfl (fun R w0 => ?_)
  simp only [envOf, List.cons_append, List.nil_append]
  refine cw_seq ?_
  refine cw_region ?_
  refine ow_y (y_assign rfl) ?_
  refine ow_nil ?_
  refine kw_code (fun _ _ h => h) ?_
  refine cw_seq ?_
  refine cw_region ?_
  refine ow_y (y_assign rfl) ?_
  refine ow_nil ?_
  refine kw_code (fun _ _ h => h) ?_
  refine cw_seq ?_
  refine cw_seq ?_
  refine cw_region ?_
  refine ow_y (y_move rfl) ?_
  refine ow_y (y_move rfl) ?_
  refine ow_y (y_max rfl rfl) ?_
  refine ow_y (y_min rfl rfl) ?_
  rw [hmm]
  refine ow_gives rfl F.hb50 rfl (text_ok b s k hn hs) (by repeat (first | exact Split.nil | apply Split.cons (by repeat (first | exact Fnd.here | apply Fnd.there)))) ?_
  simp only [List.cons_append, List.nil_append]
  refine ow_bytes F.st9 F.sl29 F.by5 rfl (by rw [hsz]; simp only [maxLen]; omega) (fun b13 k13 hk13 hm13 => ?_)
  refine ow_y (y_len_slice F.sl29 rfl) ?_
  refine ow_y (y_move rfl) ?_
  refine ow_nil ?_
  refine kw_code (fun _ _ h => h) ?_
  refine cw_block ?_
  refine cw_loop (X := {i : Nat // i ≤ k}) (fun x => [(5, .int .u64 (be (s.data.toList.take x.1) : Nat)), (13, .slice (some ⟨b13, 0, none⟩) (s.extract 0 k).size k13), (14, .int .i64 (s.extract 0 k).size), (15, .int .i64 x.1)]) (fun x => [pts b13 (.cells (bytesL (s.extract 0 k) k13).toArray 5 (k13, k13 + 1)), pin b (s.extract k s.size), R]) (fun x => k - x.1) ⟨0, by omega⟩ (by repeat (first | exact Sub.nil | refine Sub.cons rfl ?_)) (by repeat (first | exact Split.nil | apply Split.cons (by repeat (first | exact Fnd.here | apply Fnd.there)))) ?_
  rintro ⟨i, hi⟩ m0 hm0
  try simp only at hm0
  try dsimp only
  skip
  refine cw_seq ?_
  refine cw_region ?_
  refine ow_y (y_lss rfl rfl) ?_
  refine ow_nil ?_
  refine kw_code (fun _ _ h => h) ?_
  refine cw_seq ?_
  refine cw_if rfl (fun hb16 => ?_) (fun hb16 => ?_)
  · skip
    have hik : i < k := by have := of_decide_eq_true hb16; omega
    have hil : i < s.data.toList.length := by have : s.data.toList.length = s.size := by simp
                                              omega
    have hck : (s.extract 0 k).data.toList[i]'(by simp; omega) = s.data.toList[i] := by simp
    refine cw_skip ?_
    refine kw_code (fun _ _ h => h) ?_
    refine cw_seq ?_
    refine cw_block ?_
    refine cw_seq ?_
    refine cw_region ?_
    refine ow_y (y_ixs F.sl29 rfl rfl (by omega)) ?_
    refine ow_y (y_load F.sc5 rfl (bytes_at (s.extract 0 k) k13 i (by omega) _ (by simp))) ?_
    refine ow_y (y_assign rfl) ?_
    refine ow_nil ?_
    rw [hck]
    refine kw_code (fun _ _ h => h) ?_
    refine cw_region ?_
    refine ow_y (y_move rfl) ?_
    refine ow_y (y_shl rfl rfl (by first | decide | (simp only [IntKind.bits]; omega))) ?_
    refine ow_y (y_move rfl) ?_
    refine ow_y (y_conv F.ts5 F.in72 rfl) ?_
    have hcl := (s.data.toList[i]).toNat_lt
    have hbb := be_bound s.data.toList i (by omega)
    rw [show IntKind.u64.wrap ((be (s.data.toList.take i) : Nat) * 2 ^ Int.toNat 8) = ((be (s.data.toList.take i) * 256 : Nat) : Int) from wrap_u64 _ _ (by simp) hbb, show IntKind.u64.wrap ((s.data.toList[i]).toNat : Int) = ((s.data.toList[i]).toNat : Int) from wrap_u64 _ _ rfl (by omega)]
    refine ow_y (y_or rfl rfl) ?_
    refine ow_y (y_assign rfl) ?_
    refine ow_nil ?_
    rw [or_u64 _ _ hbb (by omega), ← be_take _ _ hil]
    refine kw_code (fun _ _ h => h) ?_
    refine cw_region ?_
    refine ow_y (y_addI rfl rfl (by omega)) ?_
    refine ow_y (y_move rfl) ?_
    refine ow_nil ?_
    refine kw_rnd (fun _ _ h => h) (⟨i + 1, hik⟩) (by first | omega | (simp only; omega)) (by repeat (first | exact Sub.nil | refine Sub.cons rfl ?_)) (by repeat (first | exact Split.nil | apply Split.cons (by repeat (first | exact Fnd.here | apply Fnd.there))))
  · skip
    have hik : i = k := by have := of_decide_eq_false hb16; omega
    subst hik
    refine cw_exit ?_
    refine kw_code (fun _ _ h => h) ?_
    refine cw_seq ?_
    refine cw_region ?_
    refine ow_y (y_move rfl) ?_
    refine ow_y (y_assign rfl) ?_
    refine ow_nil ?_
    refine kw_code (fun _ _ h => h) ?_
    refine cw_retG (fun _ _ h => h) rfl rfl (by repeat (first | exact Split.nil | apply Split.cons (by repeat (first | exact Fnd.here | apply Fnd.there))))
end Go.Proofs.Ytofffddcbjkdcaa
