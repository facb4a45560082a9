/- Part of the proof; no statement of its own: C3. -/
import Derived.Test.YtofffddcbjkdcaaC2
set_option linter.all false
namespace Go.Proofs.Ytofffddcbjkdcaa
open Go.Sl
/-- of no text -/
theorem sum0_spec : Does Try.prog 13 #[.slice none 0 0] [] (Gives (.int .u32 0) []) :=
  Does.noPre (Does.weak (sumA_spec none 0 [] (fact True) (by simp) (by simp) (fun i h => absurd h (by simp))))
/-- of texts that a literal holds -/
theorem sum_spec (b cap : Nat) (ss : List ByteArray) (hn : ss.length ≤ maxLen) (hs : ∀ s ∈ ss, s.size ≤ maxLen) :
    Does Try.prog 13 #[.slice (some ⟨b, 0, none⟩) ss.length cap] [pts b (.cells (ss.map Value.string).toArray 9 (0, 0))] (Gives (.int .u32 ((Crc.crc (bytesOf ss)).toNat : Int)) []) := by
  refine Does.weak (sumA_spec _ cap ss _ hn hs (fun i h => ⟨_, rfl, fun w L hsat => ?_⟩))
  have hb := hsat.pts
  simp [World.cell?, addr_add, hb, h]
theorem sum1_spec (b cap : Nat) (s : ByteArray) (hs : s.size ≤ maxLen) :
    Does Try.prog 13 #[.slice (some ⟨b, 0, none⟩) 1 cap] [pts b (.cells #[.string s] 9 (0, 0))] (Gives (.int .u32 ((Crc.crc s.data.toList).toNat : Int)) []) := by
  have := sum_spec b cap [s] (by simp [maxLen]) (by simpa using hs)
  simpa [bytesOf] using this
theorem sum2_spec (b cap : Nat) (s t : ByteArray) (hs : s.size ≤ maxLen) (ht : t.size ≤ maxLen) :
    Does Try.prog 13 #[.slice (some ⟨b, 0, none⟩) 2 cap] [pts b (.cells #[.string s, .string t] 9 (0, 0))] (Gives (.int .u32 ((Crc.crc (s.data.toList ++ t.data.toList)).toNat : Int)) []) := by
  have := sum_spec b cap [s, t] (by simp [maxLen]) (by simpa using ⟨hs, ht⟩)
  simpa [bytesOf] using this
theorem crcAwake_spec : Does Try.prog 12 #[] [] (Gives (.bool true) []) := by
  have e1 : (Crc.crc [49, 50, 51, 52, 53, 54, 55, 56, 57]).toNat = 3808858755 := by decide +kernel
  have s1 : ∀ b, Does Try.prog 13 #[.slice (some ⟨b, 0, none⟩) 1 1] [pts b (.cells #[.string ⟨#[49, 50, 51, 52, 53, 54, 55, 56, 57]⟩] 9 (0, 0))] (Gives (.int .u32 3808858755) []) := by
    intro b
    have := sum1_spec b 1 ⟨#[49, 50, 51, 52, 53, 54, 55, 56, 57]⟩ (by decide)
    simp only [e1] at this; exact this
  have s2 : ∀ b, Does Try.prog 13 #[.slice (some ⟨b, 0, none⟩) 2 2] [pts b (.cells #[.string ⟨#[49, 50, 51, 52]⟩, .string ⟨#[53, 54, 55, 56, 57]⟩] 9 (0, 0))] (Gives (.int .u32 3808858755) []) := by
    intro b
    have := sum2_spec b 2 ⟨#[49, 50, 51, 52]⟩ ⟨#[53, 54, 55, 56, 57]⟩ (by decide) (by decide)
    simp only [List.cons_append, List.nil_append, e1] at this; exact this
  refine does_enter Try.func12 rfl Try.ntmps12 rfl (fun R w0 => ?_)
  simp only [envOf, List.cons_append, List.nil_append]
  refine cw_seq ?_
  refine cw_region ?_
  refine ow_y (y_assign rfl) ?_
  refine ow_nil ?_
  refine kw_code (fun _ _ h => h) ?_
  refine cw_seq ?_
  refine cw_region ?_
  refine (ow_buildSlice F.sl59 F.z9 rfl rfl rfl (by simp [fillL, madeL, Value.cells] <;> rfl) (fun b1 => ?_))
  refine ow_gives rfl F.hb13 rfl (s1 b1) (by repeat (first | exact Split.nil | apply Split.cons (by repeat (first | exact Fnd.here | apply Fnd.there)))) ?_
  simp only [List.cons_append, List.nil_append]
  refine ow_y (y_eql rfl rfl) ?_
  refine ow_y (y_move rfl) ?_
  refine ow_want (fun a w hh => (want_of rfl rfl rfl hh).trans (wTT (by first | rfl | exact decide_eq_true (by omega)))) ?_
  refine ow_gives rfl F.hb13 rfl (sum0_spec) (by repeat (first | exact Split.nil | apply Split.cons (by repeat (first | exact Fnd.here | apply Fnd.there)))) ?_
  simp only [List.cons_append, List.nil_append]
  refine ow_yg (y_eql rfl rfl) (fun a w hh => (want_of rfl rfl rfl hh).trans (wTT (by first | rfl | exact decide_eq_true (by omega)))) ?_
  refine ow_y (y_pickT rfl (by first | rfl | exact decide_eq_true (by omega)) rfl) ?_
  refine ow_y (y_move rfl) ?_
  refine ow_want (fun a w hh => (want_of rfl rfl rfl hh).trans (wTT (by first | rfl | exact decide_eq_true (by omega)))) ?_
  refine (ow_buildSlice F.sl59 F.z9 rfl rfl rfl (by simp [fillL, madeL, Value.cells] <;> rfl) (fun b9 => ?_))
  refine ow_want (fun a w hh => (want_of rfl rfl rfl hh).trans (wTT (by first | rfl | exact decide_eq_true (by omega)))) ?_
  refine ow_gives rfl F.hb13 rfl (s2 b9) (by repeat (first | exact Split.nil | apply Split.cons (by repeat (first | exact Fnd.here | apply Fnd.there)))) ?_
  simp only [List.cons_append, List.nil_append]
  refine ow_yg (y_eql rfl rfl) (fun a w hh => (want_of rfl rfl rfl hh).trans (wTT (by first | rfl | exact decide_eq_true (by omega)))) ?_
  refine ow_y (y_pickT rfl (by first | rfl | exact decide_eq_true (by omega)) rfl) ?_
  refine ow_y (y_assign rfl) ?_
  refine ow_nil ?_
  refine kw_code (fun _ _ h => h) ?_
  refine cw_retG (fun _ _ h => h) rfl rfl (by repeat (first | exact Split.nil | apply Split.cons (by repeat (first | exact Fnd.here | apply Fnd.there))))
def cutS (s : ByteArray) (n : Nat) : ByteArray := if s.size > n then s.extract 0 n else s
theorem cut_spec (s : ByteArray) (n : Nat) (hs : s.size ≤ maxLen) : Does Try.prog 11 #[.string s, .int .i64 n] [] (Gives (.string (cutS s n)) []) := by
  simp only [maxLen] at hs
  refine does_enter Try.func11 rfl Try.ntmps11 rfl (fun R w0 => ?_)
  simp only [envOf, List.cons_append, List.nil_append]
  refine cw_seq ?_
  refine cw_region ?_
  refine ow_y (y_assign rfl) ?_
  refine ow_nil ?_
  refine kw_code (fun _ _ h => h) ?_
  refine cw_seq ?_
  refine cw_seq ?_
  refine cw_region ?_
  refine ow_y (y_move rfl) ?_
  refine ow_y (y_len_str F.st9 rfl) ?_
  refine ow_y (y_move rfl) ?_
  refine ow_y (y_gtr rfl rfl) ?_
  refine ow_nil ?_
  refine kw_code (fun _ _ h => h) ?_
  refine cw_if rfl (fun hb8 => ?_) (fun hb8 => ?_)
  · skip
    have hgt : s.size > n := by have := of_decide_eq_true hb8; omega
    refine cw_seq ?_
    refine cw_region ?_
    refine ow_y (y_move rfl) ?_
    refine ow_y (y_move rfl) ?_
    refine ow_y (y_cutH F.st9 rfl rfl (by omega)) ?_
    refine ow_y (y_assign rfl) ?_
    refine ow_nil ?_
    refine kw_code (fun _ _ h => h) ?_
    refine cw_retG (fun _ _ h => h) rfl (by simp [cutS, hgt]) (by repeat (first | exact Split.nil | apply Split.cons (by repeat (first | exact Fnd.here | apply Fnd.there))))
  · skip
    have hgt : ¬ s.size > n := by have := of_decide_eq_false hb8; omega
    refine cw_skip ?_
    refine kw_code (fun _ _ h => h) ?_
    refine cw_seq ?_
    refine cw_region ?_
    refine ow_y (y_move rfl) ?_
    refine ow_y (y_assign rfl) ?_
    refine ow_nil ?_
    refine kw_code (fun _ _ h => h) ?_
    refine cw_retG (fun _ _ h => h) rfl (by simp [cutS, hgt]) (by repeat (first | exact Split.nil | apply Split.cons (by repeat (first | exact Fnd.here | apply Fnd.there))))
theorem refBits_succ (n : Nat) : ∀ y, Crc.refBits (n + 1) y = Crc.refBit (Crc.refBits n y) := by
  induction n with
  | zero => intro y; rfl
  | succ n ih => intro y; rw [Crc.refBits, ih]; rfl
theorem refBit_lt (y : Nat) (h : y < 4294967296) : Crc.refBit y < 4294967296 := by
  unfold Crc.refBit
  split
  · exact Nat.xor_lt_two_pow (n := 32) (by omega) (by decide)
  · omega
theorem refBits_lt (n : Nat) (y : Nat) (h : y < 4294967296) : Crc.refBits n y < 4294967296 := by
  induction n with
  | zero => exact h
  | succ n ih => rw [refBits_succ]; exact refBit_lt _ ih
theorem refRun_take (x : Nat) (l : List UInt8) (i : Nat) (h : i < l.length) : Crc.refRun x (l.take (i + 1)) = Crc.refByte (Crc.refRun x (l.take i)) l[i] := by
  simp only [Crc.refRun]
  rw [List.take_succ, List.getElem?_eq_getElem h, List.foldl_append]; rfl
theorem refSum_spec (s : ByteArray) (hs : s.size ≤ maxLen) : Does Try.prog 14 #[.string s] [] (Gives (.int .i64 ((Crc.crc s.data.toList).toNat : Int)) []) := by
  simp only [maxLen] at hs
  have hsl : s.data.toList.length = s.size := by simp
  refine does_enter Try.func14 rfl Try.ntmps14 rfl (fun R w0 => ?_)
  simp only [envOf, List.cons_append, List.nil_append]
  refine cw_seq ?_
  refine cw_region ?_
  refine ow_y (y_assign rfl) ?_
  refine ow_nil ?_
  refine kw_code (fun _ _ h => h) ?_
  refine cw_seq ?_
  refine cw_region ?_
  refine ow_y (y_assign rfl) ?_
  refine ow_nil ?_
  refine kw_code (fun _ _ h => h) ?_
  refine cw_seq ?_
  refine cw_seq ?_
  refine cw_region ?_
  refine ow_y (y_assign rfl) ?_
  refine ow_nil ?_
  refine kw_code (fun _ _ h => h) ?_
  refine cw_block ?_
  refine cw_loop (X := {i : Nat // i ≤ s.size}) (fun x => [(0, .string s), (3, .int .i64 (Crc.refRun 4294967295 (s.data.toList.take x.1) : Nat)), (4, .int .i64 x.1)]) (fun x => [R]) (fun x => s.size - x.1) ⟨0, by omega⟩ (by repeat (first | exact Sub.nil | refine Sub.cons rfl ?_)) (by repeat (first | exact Split.nil | apply Split.cons (by repeat (first | exact Fnd.here | apply Fnd.there)))) ?_
  rintro ⟨i, hi⟩ m0 hm0
  try simp only at hm0
  try dsimp only
  have hlt0 := Crc.refRun_lt (s.data.toList.take i) 4294967295 (by decide)
  generalize hx : Crc.refRun 4294967295 (s.data.toList.take i) = x at hlt0
  refine cw_seq ?_
  refine cw_seq ?_
  refine cw_region ?_
  refine ow_y (y_move rfl) ?_
  refine ow_y (y_move rfl) ?_
  refine ow_y (y_len_str F.st9 rfl) ?_
  refine ow_y (y_lss rfl rfl) ?_
  refine ow_nil ?_
  refine kw_code (fun _ _ h => h) ?_
  refine cw_if rfl (fun hb10 => ?_) (fun hb10 => ?_)
  · skip
    have hit : i < s.size := by have := of_decide_eq_true hb10; omega
    have hil : i < s.data.toList.length := by omega
    generalize hc : s.data.toList[i]'hil = ch
    refine cw_skip ?_
    refine kw_code (fun _ _ h => h) ?_
    refine cw_seq ?_
    refine cw_block ?_
    refine cw_seq ?_
    refine cw_region ?_
    refine ow_y (y_move rfl) ?_
    refine ow_y (y_move rfl) ?_
    refine ow_y (y_move rfl) ?_
    refine ow_y (y_byte F.st9 rfl rfl (by omega) (u := ch) (by simp [← hc, hit])) ?_
    refine ow_y (y_conv F.ts5 F.in3 rfl) ?_
    refine ow_y (y_xor rfl rfl) ?_
    refine ow_y (y_assign rfl) ?_
    refine ow_nil ?_
    have hcl := ch.toNat_lt
    rw [show IntKind.i64.wrap (ch.toNat : Int) = (ch.toNat : Int) from wrap_sm IntKind.i64 _ (by omega) (by simp only [IntKind.bits]; omega), xor_i64 x ch.toNat (by omega) (by omega)]
    have hy0 : x ^^^ ch.toNat < 4294967296 := Nat.xor_lt_two_pow (n := 32) (by simpa using hlt0) (by omega)
    generalize hy : x ^^^ ch.toNat = y at hy0
    refine kw_code (fun _ _ h => h) ?_
    refine cw_seq ?_
    refine cw_region ?_
    refine ow_y (y_assign rfl) ?_
    refine ow_nil ?_
    refine kw_code (fun _ _ h => h) ?_
    refine cw_block ?_
    refine cw_loop (X := {j : Nat // j ≤ 8}) (fun z => [(0, .string s), (3, .int .i64 (Crc.refBits z.1 y : Nat)), (4, .int .i64 i), (5, .int .i64 z.1)]) (fun z => [R]) (fun z => 8 - z.1) ⟨0, by omega⟩ (by repeat (first | exact Sub.nil | refine Sub.cons rfl ?_)) (by repeat (first | exact Split.nil | apply Split.cons (by repeat (first | exact Fnd.here | apply Fnd.there)))) ?_
    rintro ⟨j, hj⟩ m2 hm2
    try simp only at hm2
    try dsimp only
    have hz0 := refBits_lt j y hy0
    generalize hz : Crc.refBits j y = z at hz0
    refine cw_seq ?_
    refine cw_seq ?_
    refine cw_region ?_
    refine ow_y (y_move rfl) ?_
    refine ow_y (y_lss rfl rfl) ?_
    refine ow_nil ?_
    refine kw_code (fun _ _ h => h) ?_
    refine cw_if rfl (fun hb20 => ?_) (fun hb20 => ?_)
    · skip
      have hjt : j < 8 := by have := of_decide_eq_true hb20; omega
      refine cw_skip ?_
      refine kw_code (fun _ _ h => h) ?_
      refine cw_seq ?_
      refine cw_block ?_
      refine cw_seq ?_
      refine cw_region ?_
      refine ow_y (y_move rfl) ?_
      refine ow_y (y_remI rfl rfl (by omega)) ?_
      refine ow_y (y_eql rfl rfl) ?_
      refine ow_y (y_assign rfl) ?_
      refine ow_nil ?_
      refine kw_code (fun _ _ h => h) ?_
      refine cw_seq ?_
      refine cw_region ?_
      refine ow_y (y_move rfl) ?_
      refine ow_y (y_quoI rfl rfl (by omega)) ?_
      refine ow_y (y_assign rfl) ?_
      refine ow_nil ?_
      refine kw_code (fun _ _ h => h) ?_
      refine cw_seq ?_
      refine cw_region ?_
      refine ow_y (y_move rfl) ?_
      refine ow_nil ?_
      refine kw_code (fun _ _ h => h) ?_
      refine cw_if rfl (fun hb28 => ?_) (fun hb28 => ?_)
      · skip
        have hodd : z % 2 = 1 := by have := eq_of_beq hb28; omega
        refine cw_region ?_
        refine ow_y (y_move rfl) ?_
        refine ow_y (y_xor rfl rfl) ?_
        refine ow_y (y_assign rfl) ?_
        refine ow_nil ?_
        rw [show ((z : Int) / 2) = ((z / 2 : Nat) : Int) from by omega, show (2197175160 : Int) = ((2197175160 : Nat) : Int) from rfl, xor_i64 _ _ (by omega) (by omega)]
        rw [show (z / 2) ^^^ 2197175160 = Crc.refBits (j + 1) y from by rw [refBits_succ, hz]; unfold Crc.refBit; rw [if_pos hodd]]
        refine kw_code (fun _ _ h => h) ?_
        refine cw_region ?_
        refine ow_y (y_move rfl) ?_
        refine ow_y (y_addI rfl rfl (by omega)) ?_
        refine ow_y (y_assign rfl) ?_
        refine ow_nil ?_
        refine kw_rnd (fun _ _ h => h) (⟨j + 1, hjt⟩) (by first | omega | (simp only; omega)) (by repeat (first | exact Sub.nil | refine Sub.cons rfl ?_)) (by repeat (first | exact Split.nil | apply Split.cons (by repeat (first | exact Fnd.here | apply Fnd.there))))
      · skip
        have heven : ¬ z % 2 = 1 := by
          intro h
          have h2 : ((z : Int) % 2) = 1 := by omega
          rw [h2] at hb28; exact absurd hb28 (by decide)
        rw [show ((z : Int) / 2) = ((Crc.refBits (j + 1) y : Nat) : Int) from by rw [refBits_succ, hz]; unfold Crc.refBit; rw [if_neg heven]; omega]
        refine cw_skip ?_
        refine kw_code (fun _ _ h => h) ?_
        refine cw_region ?_
        refine ow_y (y_move rfl) ?_
        refine ow_y (y_addI rfl rfl (by omega)) ?_
        refine ow_y (y_assign rfl) ?_
        refine ow_nil ?_
        refine kw_rnd (fun _ _ h => h) (⟨j + 1, hjt⟩) (by first | omega | (simp only; omega)) (by repeat (first | exact Sub.nil | refine Sub.cons rfl ?_)) (by repeat (first | exact Split.nil | apply Split.cons (by repeat (first | exact Fnd.here | apply Fnd.there))))
    · skip
      have hj8 : j = 8 := by have := of_decide_eq_false hb20; omega
      subst hj8
      rw [show z = Crc.refRun 4294967295 (s.data.toList.take (i + 1)) from by rw [← hz, ← hy, ← hx, ← hc, refRun_take _ _ _ hil]; rfl]
      refine cw_exit ?_
      refine kw_code (fun _ _ h => h) ?_
      refine cw_region ?_
      refine ow_y (y_move rfl) ?_
      refine ow_y (y_addI rfl rfl (by omega)) ?_
      refine ow_y (y_assign rfl) ?_
      refine ow_nil ?_
      refine kw_rnd (fun _ _ h => h) (⟨i + 1, hit⟩) (by first | omega | (simp only; omega)) (by repeat (first | exact Sub.nil | refine Sub.cons rfl ?_)) (by repeat (first | exact Split.nil | apply Split.cons (by repeat (first | exact Fnd.here | apply Fnd.there))))
  · skip
    have hie : i = s.size := by have := of_decide_eq_false hb10; omega
    have hxx : Crc.refRun 4294967295 s.data.toList = x := by rw [← hx, List.take_of_length_le (by omega)]
    refine cw_exit ?_
    refine kw_code (fun _ _ h => h) ?_
    refine cw_seq ?_
    refine cw_region ?_
    refine ow_y (y_move rfl) ?_
    refine ow_y (y_subI rfl rfl (by omega)) ?_
    refine ow_y (y_assign rfl) ?_
    refine ow_nil ?_
    refine kw_code (fun _ _ h => h) ?_
    refine cw_retG (fun _ _ h => h) rfl (by rw [← Crc.ref_crc, hxx]; congr 1; omega) (by repeat (first | exact Split.nil | apply Split.cons (by repeat (first | exact Fnd.here | apply Fnd.there))))
end Go.Proofs.Ytofffddcbjkdcaa
