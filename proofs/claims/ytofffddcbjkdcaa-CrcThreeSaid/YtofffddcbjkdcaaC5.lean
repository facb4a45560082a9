/- Part of the proof; no statement of its own: C5. -/
import Derived.Test.YtofffddcbjkdcaaC4
set_option linter.all false
namespace Go.Proofs.Ytofffddcbjkdcaa
open Go.Sl
/-- bytes, then noughts -/
def byL (bs : List UInt8) (cap : Nat) : List Value := bs.map byteV ++ List.replicate (cap - bs.length) (.int .u8 0)
theorem byL_bytes (s : ByteArray) (cap : Nat) : bytesL s cap = byL s.data.toList cap := by
  simp [bytesL, byL]
theorem byL_at {bs : List UInt8} {cap i : Nat} (h : i < bs.length) (k : Nat) (hk : k = i) : nth (byL bs cap) k = some (.int .u8 (bs[i].toNat : Int)) := by
  subst hk
  rw [nth_eq, byL, List.getElem?_append_left (by simpa using h)]; simp [byteV, h]
theorem byL_set {bs : List UInt8} {cap i : Nat} (h : i < bs.length) (k : Nat) (hk : k = i) (c : UInt8) (v : Value) (hv : v = byteV c) : (byL bs cap).set k v = byL (bs.set i c) cap := by
  subst hk; subst hv
  simp only [byL, List.length_set]
  rw [List.set_append_left _ _ (by simpa using h), List.map_set]
theorem byL_len (bs : List UInt8) (cap : Nat) (h : bs.length ≤ cap) : (byL bs cap).length = cap := by simp [byL]; omega
theorem byL_take (bs : List UInt8) (cap n : Nat) (hn : n = bs.length) : ((byL bs cap).drop 0).take n = bs.map byteV := by
  subst hn
  simp only [List.drop_zero, byL]
  rw [List.take_append_of_le_length (by simp), List.take_of_length_le (by simp)]
theorem xor_u8 (a b : UInt8) : bits .xor .u8 (a.toNat : Int) (b.toNat : Int) = ((a ^^^ b).toNat : Int) := by
  have ha := a.toNat_lt
  have hb := b.toNat_lt
  have h : a.toNat ^^^ b.toNat < 2 ^ 8 := Nat.xor_lt_two_pow (by omega) (by omega)
  have e1 : a.toNat % 2 ^ IntKind.u8.bits = a.toNat := Nat.mod_eq_of_lt (by simp only [IntKind.bits]; omega)
  have e2 : b.toNat % 2 ^ IntKind.u8.bits = b.toNat := Nat.mod_eq_of_lt (by simp only [IntKind.bits]; omega)
  simp only [bits, BitVec.ofInt_natCast, BitVec.toNat_xor, BitVec.toNat_ofNat, e1, e2]
  rw [IntKind.wrap_u8, UInt8.toNat_xor]
  exact Int.emod_eq_of_lt (Int.natCast_nonneg _) (by omega)
theorem same_outside {l bs : List UInt8} {a j : Nat} (hl : bs.length = l.length) (h : ∀ k, k < a ∨ a + j ≤ k → bs[k]? = l[k]?) (haj : a + j ≤ l.length) (hj : j ≤ 4) :
    (bs = l ↔ Crc.crc bs = Crc.crc l) := by
  constructor
  · rintro rfl; rfl
  · intro hc
    have e : ∀ m : List UInt8, m = m.take a ++ (m.drop a).take j ++ m.drop (a + j) := by
      intro m
      rw [List.append_assoc, ← List.drop_drop, List.take_append_drop, List.take_append_drop]
    have h1 : bs.take a = l.take a := by
      apply List.ext_getElem?; intro k
      simp only [List.getElem?_take]
      split
      · exact h k (.inl (by assumption))
      · rfl
    have h2 : bs.drop (a + j) = l.drop (a + j) := by
      apply List.ext_getElem?; intro k
      simp only [List.getElem?_drop]
      exact h _ (.inr (by omega))
    have hq := e bs
    have hq' := e l
    rw [h1, h2] at hq
    have hc2 : Crc.crc (l.take a ++ (bs.drop a).take j ++ l.drop (a + j)) = Crc.crc (l.take a ++ (l.drop a).take j ++ l.drop (a + j)) := by rw [← hq, ← hq']; exact hc
    have hc' := Crc.crc_spoilt (l.take a) ((bs.drop a).take j) ((l.drop a).take j) (l.drop (a + j)) (by simp [hl]) (by simp; omega) hc2
    rw [hq, hc', ← hq']
theorem spoilt_end {bs l : List UInt8} (h : bs = l ↔ Crc.crc bs = Crc.crc l) : Value.bool ((bs == l) == (((Crc.crc bs).toNat : Int) == ((Crc.crc l).toNat : Int))) = .bool true := by
  by_cases hb : bs = l
  · subst hb; simp
  · have h2 : ¬ ((Crc.crc bs).toNat : Int) = ((Crc.crc l).toNat : Int) := fun e => hb (h.2 (BitVec.eq_of_toNat_eq (by omega)))
    rw [beq_eq_false_iff_ne.2 hb, beq_eq_false_iff_ne.2 h2]; rfl
theorem crcSpoilt_walk (W : World) (s_ : ByteArray) (hs_ : s_.size ≤ maxLen) (i_ : Int) (hi_ : (Lit.int .i64 i_).wf = true) (ws : List Int) (hws : ws.length = 4) (hww : ∀ z ∈ ws, (Lit.int .u8 z).wf = true) :
    Does Try.prog 4 #[.string s_, .int .i64 i_, .agg (ws.map (Value.int .u8)).toArray] [whole W] (Gives (.bool true) [whole W]) := by
  have hc := cut_spec s_ 300 hs_
  have hl := cutS_le s_ 300
  generalize cutS s_ 300 = s at hc hl
  have hm : s.size ≤ maxLen := by simp only [maxLen]; omega
  have hsl : s.data.toList.length = s.size := by simp
  obtain ⟨us, hus, hus4⟩ : ∃ us : List UInt8, ws.map (Value.int .u8) = us.map byteV ∧ us.length = 4 := by
    refine ⟨ws.map fun z => UInt8.ofNat z.toNat, ?_, by simpa using hws⟩
    rw [List.map_map]
    apply List.map_congr_left
    intro z hz
    have := hww z hz
    simp only [Lit.wf, Bool.and_eq_true, decide_eq_true_eq] at this
    simp only [IntKind.min, IntKind.max, IntKind.signed, IntKind.bits] at this
    simp only [Function.comp, byteV]
    rw [UInt8.toNat_ofNat']
    congr 1
    simp at this
    omega
  rw [hus]
  by_cases h0 : s.size = 0
  · skip
    refine does_enter Try.func4 rfl Try.ntmps4 rfl (fun R w0 => ?_)
    simp only [envOf, List.cons_append, List.nil_append]
    refine cw_seq ?_
    refine cw_region ?_
    refine (ow_box rfl (fun b5 => ?_))
    refine ow_y (y_assign rfl) ?_
    refine ow_nil ?_
    refine kw_code (fun _ _ h => h) ?_
    refine cw_seq ?_
    refine cw_region ?_
    refine ow_y (y_move rfl) ?_
    refine ow_gives rfl F.hb11 rfl (hc) (by repeat (first | exact Split.nil | apply Split.cons (by repeat (first | exact Fnd.here | apply Fnd.there)))) ?_
    simp only [List.cons_append, List.nil_append]
    refine ow_y (y_assign rfl) ?_
    refine ow_nil ?_
    refine kw_code (fun _ _ h => h) ?_
    refine cw_seq ?_
    refine cw_seq ?_
    refine cw_region ?_
    refine ow_gives rfl F.hb12 rfl (crcAwake_spec) (by repeat (first | exact Split.nil | apply Split.cons (by repeat (first | exact Fnd.here | apply Fnd.there)))) ?_
    simp only [List.cons_append, List.nil_append]
    refine ow_y (y_not rfl) ?_
    refine ow_y (y_move rfl) ?_
    refine ow_yg (y_move rfl) (fun a w hh => (want_of rfl rfl rfl hh).trans (wFF (by first | rfl | exact decide_eq_false (by omega)))) ?_
    refine ow_yg (y_len_str F.st9 rfl) (fun a w hh => (want_of rfl rfl rfl hh).trans (wFF (by first | rfl | exact decide_eq_false (by omega)))) ?_
    refine ow_yg (y_eql rfl rfl) (fun a w hh => (want_of rfl rfl rfl hh).trans (wFF (by first | rfl | exact decide_eq_false (by omega)))) ?_
    refine ow_y (y_pickF rfl (by first | rfl | exact decide_eq_false (by omega)) rfl) ?_
    refine ow_nil ?_
    refine kw_code (fun _ _ h => h) ?_
    refine cw_true rfl (by simp [h0]) ?_
    refine cw_seq ?_
    refine cw_region ?_
    refine ow_gives rfl F.hb12 rfl (crcAwake_spec) (by repeat (first | exact Split.nil | apply Split.cons (by repeat (first | exact Fnd.here | apply Fnd.there)))) ?_
    simp only [List.cons_append, List.nil_append]
    refine ow_y (y_assign rfl) ?_
    refine ow_nil ?_
    refine kw_code (fun _ _ h => h) ?_
    refine cw_retG (fun _ _ h => h) rfl rfl (by repeat (first | exact Split.nil | apply Split.cons (by repeat (first | exact Fnd.here | apply Fnd.there))))
  · obtain ⟨at_, hat, hatl⟩ : ∃ a : Nat, (i_.tmod (s.size : Int) + (s.size : Int)) % (s.size : Int) = (a : Int) ∧ a < s.size := by
      have h1 := Int.emod_nonneg (i_.tmod (s.size : Int) + (s.size : Int)) (show (s.size : Int) ≠ 0 by omega)
      have h2 := Int.emod_lt_of_pos (i_.tmod (s.size : Int) + (s.size : Int)) (show (0 : Int) < s.size by omega)
      exact ⟨((i_.tmod (s.size : Int) + (s.size : Int)) % (s.size : Int)).toNat, by omega, by omega⟩
    have htm : -(s.size : Int) < i_.tmod (s.size : Int) ∧ i_.tmod (s.size : Int) < s.size := by
      have h2 := Int.tmod_lt_of_pos i_ (show (0 : Int) < s.size by omega)
      have h1 := Int.lt_tmod_of_pos i_ (show (0 : Int) < s.size by omega)
      omega
    refine does_enter Try.func4 rfl Try.ntmps4 rfl (fun R w0 => ?_)
    simp only [envOf, List.cons_append, List.nil_append]
    refine cw_seq ?_
    refine cw_region ?_
    refine (ow_box rfl (fun b5 => ?_))
    refine ow_y (y_assign rfl) ?_
    refine ow_nil ?_
    refine kw_code (fun _ _ h => h) ?_
    refine cw_seq ?_
    refine cw_region ?_
    refine ow_y (y_move rfl) ?_
    refine ow_gives rfl F.hb11 rfl (hc) (by repeat (first | exact Split.nil | apply Split.cons (by repeat (first | exact Fnd.here | apply Fnd.there)))) ?_
    simp only [List.cons_append, List.nil_append]
    refine ow_y (y_assign rfl) ?_
    refine ow_nil ?_
    refine kw_code (fun _ _ h => h) ?_
    refine cw_seq ?_
    refine cw_seq ?_
    refine cw_region ?_
    refine ow_gives rfl F.hb12 rfl (crcAwake_spec) (by repeat (first | exact Split.nil | apply Split.cons (by repeat (first | exact Fnd.here | apply Fnd.there)))) ?_
    simp only [List.cons_append, List.nil_append]
    refine ow_y (y_not rfl) ?_
    refine ow_y (y_move rfl) ?_
    refine ow_yg (y_move rfl) (fun a w hh => (want_of rfl rfl rfl hh).trans (wFF (by first | rfl | exact decide_eq_false (by omega)))) ?_
    refine ow_yg (y_len_str F.st9 rfl) (fun a w hh => (want_of rfl rfl rfl hh).trans (wFF (by first | rfl | exact decide_eq_false (by omega)))) ?_
    refine ow_yg (y_eql rfl rfl) (fun a w hh => (want_of rfl rfl rfl hh).trans (wFF (by first | rfl | exact decide_eq_false (by omega)))) ?_
    refine ow_y (y_pickF rfl (by first | rfl | exact decide_eq_false (by omega)) rfl) ?_
    refine ow_nil ?_
    refine kw_code (fun _ _ h => h) ?_
    refine cw_false rfl (by simp [h0]) ?_
    refine cw_skip ?_
    refine kw_code (fun _ _ h => h) ?_
    refine cw_seq ?_
    refine cw_region ?_
    refine ow_y (y_move rfl) ?_
    refine (ow_bytes F.st9 F.sl29 F.by5 rfl (by omega) (fun b20 k20 hk20 hm20 => ?_))
    refine ow_y (y_assign rfl) ?_
    refine ow_nil ?_
    refine kw_code (fun _ _ h => h) ?_
    refine cw_seq ?_
    refine cw_region ?_
    refine ow_y (y_move rfl) ?_
    refine ow_y (y_move rfl) ?_
    refine ow_y (y_len_slice F.sl29 rfl) ?_
    refine ow_y (y_rem rfl rfl (by omega)) ?_
    refine ow_y (y_move rfl) ?_
    refine ow_y (y_len_slice F.sl29 rfl) ?_
    refine ow_y (y_addI rfl rfl (by omega)) ?_
    refine ow_y (y_move rfl) ?_
    refine ow_y (y_len_slice F.sl29 rfl) ?_
    refine ow_y (y_remI rfl rfl (by omega)) ?_
    refine ow_y (y_assign rfl) ?_
    refine ow_nil ?_
    rw [hat, byL_bytes]
    refine kw_code (fun _ _ h => h) ?_
    refine cw_meetE (X := {x : Nat × List UInt8 // x.1 ≤ 4 ∧ at_ + x.1 ≤ s.size ∧ x.2.length = s.data.toList.length ∧ ∀ k, (k < at_ ∨ at_ + x.1 ≤ k) → x.2[k]? = s.data.toList[k]?}) (fun x => [(0, .string s), (7, .slice (some ⟨b20, 0, none⟩) s.size k20)]) (fun x => [whole W, R, pts b20 (.cells (byL x.1.2 k20).toArray 5 (k20, k20 + 1))]) ?_ ?_
    · skip
      refine cw_seq ?_
      refine cw_region ?_
      refine ow_y (y_assign rfl) ?_
      refine ow_nil ?_
      refine kw_code (fun _ _ h => h) ?_
      refine cw_block ?_
      refine cw_loop (X := {x : Nat × List UInt8 // x.1 ≤ 4 ∧ at_ + x.1 ≤ s.size ∧ x.2.length = s.data.toList.length ∧ ∀ k, (k < at_ ∨ at_ + x.1 ≤ k) → x.2[k]? = s.data.toList[k]?}) (fun x => [(0, .string s), (1, .int .i64 at_), (5, .pointer (some ⟨b5, 0, none⟩)), (7, .slice (some ⟨b20, 0, none⟩) s.size k20), (8, .int .i64 x.1.1)]) (fun x => [whole W, R, pts b5 (.cells (us.map byteV).toArray 28 (0, 0)), pts b20 (.cells (byL x.1.2 k20).toArray 5 (k20, k20 + 1))]) (fun x => 4 - x.1.1) ⟨(0, s.data.toList), by omega, by omega, rfl, fun k _ => rfl⟩ (by repeat (first | exact Sub.nil | refine Sub.cons rfl ?_)) (by repeat (first | exact Split.nil | apply Split.cons (by repeat (first | exact Fnd.here | apply Fnd.there)))) ?_
      rintro ⟨⟨i, bs⟩, hi4, hai, hbl, hsame⟩ m0 hm0
      try simp only at hm0
      try dsimp only
      simp only at hi4 hai hbl hsame
      refine cw_seq ?_
      refine cw_seq ?_
      by_cases h4 : i < 4
      · skip
        refine cw_region ?_
        refine ow_y (y_move rfl) ?_
        refine ow_y (y_lss rfl rfl) ?_
        refine ow_y (y_move rfl) ?_
        refine ow_yg (y_move rfl) (fun a w hh => (want_of rfl rfl rfl hh).trans (wTT (by first | rfl | exact decide_eq_true (by omega)))) ?_
        refine ow_yg (y_move rfl) (fun a w hh => (want_of rfl rfl rfl hh).trans (wTT (by first | rfl | exact decide_eq_true (by omega)))) ?_
        refine ow_yg (y_addI rfl rfl (by omega)) (fun a w hh => (want_of rfl rfl rfl hh).trans (wTT (by first | rfl | exact decide_eq_true (by omega)))) ?_
        refine ow_yg (y_move rfl) (fun a w hh => (want_of rfl rfl rfl hh).trans (wTT (by first | rfl | exact decide_eq_true (by omega)))) ?_
        refine ow_yg (y_len_slice F.sl29 rfl) (fun a w hh => (want_of rfl rfl rfl hh).trans (wTT (by first | rfl | exact decide_eq_true (by omega)))) ?_
        refine ow_yg (y_lss rfl rfl) (fun a w hh => (want_of rfl rfl rfl hh).trans (wTT (by first | rfl | exact decide_eq_true (by omega)))) ?_
        refine ow_y (y_pickT rfl (by first | rfl | exact decide_eq_true (by omega)) rfl) ?_
        refine ow_nil ?_
        refine kw_code (fun _ _ h => h) ?_
        refine cw_if rfl (fun hb40 => ?_) (fun hb40 => ?_)
        · skip
          refine cw_skip ?_
          refine kw_code (fun _ _ h => h) ?_
          refine cw_seq ?_
          refine cw_block ?_
          have hin : at_ + i < bs.length := by have := of_decide_eq_true hb40; omega
          have hiu : i < us.length := by omega
          refine cw_tail 9 F.fol (by kernel_rfl) ?_
          simp only [List.take_succ_cons, List.take_zero, List.drop_succ_cons, List.drop_zero]
          refine os_y (y_move rfl) ?_
          refine os_y (y_move rfl) ?_
          refine os_y (y_move rfl) ?_
          refine os_y (y_addI rfl rfl (by omega)) ?_
          refine os_y (y_ixs F.sl29 rfl rfl (by omega)) ?_
          refine os_y (y_load F.sc5 rfl (byL_at hin _ (by omega))) ?_
          refine os_y (y_move rfl) ?_
          refine os_y (y_ixa F.ar28 rfl rfl (by omega)) ?_
          refine os_y (y_load F.sc5 rfl (by rw [nth_eq]; simp [byteV, hiu]; rfl)) ?_
          refine os_nil ?_
          refine ow_y (y_xor rfl rfl) ?_
          refine ow_y (y_ixs F.sl29 rfl rfl (by omega)) ?_
          refine ow_storeF F.sz5 rfl rfl rfl (by rw [byL_len _ _ (by omega)]; omega) (by omega) (byL_set hin _ (by omega) (bs[at_ + i] ^^^ us[i]) _ (by rw [xor_u8]; rfl)) ?_
          refine ow_nil ?_
          have hnew : ∀ k, (k < at_ ∨ at_ + (i + 1) ≤ k) → (bs.set (at_ + i) (bs[at_ + i] ^^^ us[i]))[k]? = s.data.toList[k]? := by
            intro k hk
            rw [List.getElem?_set_ne (by omega)]
            exact hsame k (by omega)
          refine kw_code (fun _ _ h => h) ?_
          refine cw_region ?_
          refine ow_y (y_move rfl) ?_
          refine ow_y (y_addI rfl rfl (by omega)) ?_
          refine ow_y (y_assign rfl) ?_
          refine ow_nil ?_
          refine kw_rnd (fun _ _ h => h) (⟨(i + 1, bs.set (at_ + i) (bs[at_ + i] ^^^ us[i])), by omega, by omega, by simpa using hbl, hnew⟩) (by first | omega | (simp only; omega)) (by repeat (first | exact Sub.nil | refine Sub.cons rfl ?_)) (by repeat (first | exact Split.nil | apply Split.cons (by repeat (first | exact Fnd.here | apply Fnd.there))))
        · skip
          refine cw_exit ?_
          refine kw_meetE (fun _ _ h => h) (⟨(i, bs), hi4, hai, hbl, hsame⟩) (by repeat (first | exact Sub.nil | refine Sub.cons rfl ?_)) (by repeat (first | exact Split.nil | apply Split.cons (by repeat (first | exact Fnd.here | apply Fnd.there))))
      · skip
        refine cw_region ?_
        refine ow_y (y_move rfl) ?_
        refine ow_y (y_lss rfl rfl) ?_
        refine ow_y (y_move rfl) ?_
        refine ow_skip rfl (fun a w hh => (want_of rfl rfl rfl hh).trans (wTF (by first | rfl | exact decide_eq_false (by omega)))) ?_
        refine ow_skip rfl (fun a w hh => (want_of rfl rfl rfl hh).trans (wTF (by first | rfl | exact decide_eq_false (by omega)))) ?_
        refine ow_skip rfl (fun a w hh => (want_of rfl rfl rfl hh).trans (wTF (by first | rfl | exact decide_eq_false (by omega)))) ?_
        refine ow_skip rfl (fun a w hh => (want_of rfl rfl rfl hh).trans (wTF (by first | rfl | exact decide_eq_false (by omega)))) ?_
        refine ow_skip rfl (fun a w hh => (want_of rfl rfl rfl hh).trans (wTF (by first | rfl | exact decide_eq_false (by omega)))) ?_
        refine ow_skip rfl (fun a w hh => (want_of rfl rfl rfl hh).trans (wTF (by first | rfl | exact decide_eq_false (by omega)))) ?_
        refine ow_y (y_pickF rfl (by first | rfl | exact decide_eq_false (by omega)) rfl) ?_
        refine ow_nil ?_
        refine kw_code (fun _ _ h => h) ?_
        refine cw_false rfl (by first | rfl | exact decide_eq_false (by omega)) ?_
        refine cw_exit ?_
        refine kw_meetE (fun _ _ h => h) (⟨(i, bs), hi4, hai, hbl, hsame⟩) (by repeat (first | exact Sub.nil | refine Sub.cons rfl ?_)) (by repeat (first | exact Split.nil | apply Split.cons (by repeat (first | exact Fnd.here | apply Fnd.there))))
    rintro ⟨⟨i, bs⟩, hi4, hai, hbl, hsame⟩
    simp only at hi4 hai hbl hsame
    refine cw_seq ?_
    have hsz : (⟨bs.toArray⟩ : ByteArray).size ≤ maxLen := by show bs.toArray.size ≤ _; simp only [maxLen]; simp; omega
    refine cw_float (.soft 0 (.soft 1 (.soft 2 (.soft 3 (.soft 4 (.soft 5 (.soft 8 (.float 9 (.hard 6 (.hard 7 (.res (.hard 10 (.soft 11 (.soft 12 (.soft 13 .done))))))))))))))) [pts b20 (.cells (byL bs k20).toArray 5 (k20, k20 + 1))] F.fol (by kernel_rfl) (by repeat (first | exact NoSlots.bp | apply NoSlots.then | apply NoSlots.inBlock)) (by repeat (first | exact Split.nil | apply Split.cons (by repeat (first | exact Fnd.here | apply Fnd.there)))) ?_
    refine omf_y rfl (y_move rfl) ?_
    refine omf_y rfl (y_text F.sl29 F.st9 F.by5 rfl (l := bs) (by omega) (byL_take _ _ _ (by omega))) ?_
    refine omf_y rfl (y_move rfl) ?_
    refine omf_y rfl (y_str_eql rfl rfl) ?_
    refine omf_y rfl (y_move rfl) ?_
    refine omf_y rfl (y_text F.sl29 F.st9 F.by5 rfl (l := bs) (by omega) (byL_take _ _ _ (by omega))) ?_
    refine omf_y rfl (y_move rfl) ?_
    refine omf_fbuildSlice (e0 := [(62, _)]) rfl (by repeat (first | exact Sub.nil | refine Sub.cons rfl ?_)) (fun _ _ _ => rfl) F.sl59 F.z9 rfl rfl rfl (by simp [fillL, madeL, Value.cells] <;> rfl) rfl ?_
    refine omf_hard rfl (fun hok EE FF => ?_)
    simp only [List.cons_append, List.nil_append]
    refine (ow_buildSlice F.sl59 F.z9 rfl rfl rfl (by simp [fillL, madeL, Value.cells] <;> rfl) (fun b60 => ?_))
    refine ow_nil ?_
    refine omf_next (E := EE) (F := FF) (by repeat (first | exact Tl.nil | apply Tl.cons)) (by repeat (first | exact Fnd.here | apply Fnd.there)) (by repeat (first | exact Split.nil | apply Split.cons (by repeat (first | exact Fnd.here | apply Fnd.there)))) (hok.put rfl) ?_
    refine omf_hard rfl (fun hok EE FF => ?_)
    simp only [List.cons_append, List.nil_append]
    refine ow_gives rfl F.hb13 rfl (sum1_spec b60 1 ⟨bs.toArray⟩ hsz) (by repeat (first | exact Split.nil | apply Split.cons (by repeat (first | exact Fnd.here | apply Fnd.there)))) ?_
    simp only [List.cons_append, List.nil_append]
    refine ow_nil ?_
    refine omf_next (E := EE) (F := FF) (by repeat (first | exact Tl.nil | apply Tl.cons)) (by repeat (first | exact Fnd.here | apply Fnd.there)) (by repeat (first | exact Split.nil | apply Split.cons (by repeat (first | exact Fnd.here | apply Fnd.there)))) (hok.put rfl) ?_
    refine omf_res (fun b63 => ?_)
    dsimp only
    refine omf_hard rfl (fun hok EE FF => ?_)
    simp only [List.cons_append, List.nil_append]
    refine ow_gives rfl F.hb13 rfl (sum1_spec b63 1 s hm) (by repeat (first | exact Split.nil | apply Split.cons (by repeat (first | exact Fnd.here | apply Fnd.there)))) ?_
    simp only [List.cons_append, List.nil_append]
    refine ow_nil ?_
    refine omf_next (E := EE) (F := FF) (by repeat (first | exact Tl.nil | apply Tl.cons)) (by repeat (first | exact Fnd.here | apply Fnd.there)) (by repeat (first | exact Split.nil | apply Split.cons (by repeat (first | exact Fnd.here | apply Fnd.there)))) (hok.put rfl) ?_
    refine omf_y rfl (y_eql rfl rfl) ?_
    refine omf_y rfl (y_bool_eql F.bo4 rfl rfl) ?_
    refine omf_y rfl (y_assign rfl) ?_
    refine omf_nil ?_
    refine kw_code (fun _ _ h => h) ?_
    refine cw_retG (fun _ _ h => h) rfl (by rw [ByteArray.toList_eq, ByteArray.toList_eq]; exact spoilt_end (same_outside hbl hsame (by omega) hi4)) (by repeat (first | exact Split.nil | apply Split.cons (by repeat (first | exact Fnd.here | apply Fnd.there))))
end Go.Proofs.Ytofffddcbjkdcaa
