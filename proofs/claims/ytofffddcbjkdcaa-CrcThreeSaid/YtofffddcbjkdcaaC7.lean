/- Part of the proof; no statement of its own: C7. -/
import Derived.Test.YtofffddcbjkdcaaC5
set_option linter.all false
namespace Go.Proofs.Ytofffddcbjkdcaa
open Go.Sl
theorem byL_rep (n : Nat) : List.replicate n (Value.int .u8 0) = (List.replicate n (0 : UInt8)).map byteV := by
  rw [List.map_replicate]; rfl
theorem take_data (s : ByteArray) (n : Nat) : (s.extract 0 n).data.toList = s.data.toList.take n := by simp
theorem crcThree_walk (W : World) (a : ByteArray) (ha : a.size ≤ maxLen) (b : ByteArray) (hb : b.size ≤ maxLen) (c : ByteArray) (hc : c.size ≤ maxLen) :
    Does Try.prog 5 #[.string a, .string b, .string c] [whole W] (Gives (.bool true) [whole W]) := by
  simp only [maxLen] at ha hb hc
  obtain ⟨n, hn, hna, hnb, hnc, hn8⟩ : ∃ n : Nat, min (min (min (a.size : Int) (b.size : Int)) (c.size : Int)) 80 = (n : Int) ∧ n ≤ a.size ∧ n ≤ b.size ∧ n ≤ c.size ∧ n ≤ 80 := ⟨min (min (min a.size b.size) c.size) 80, by omega, by omega, by omega, by omega, by omega⟩
  have hal : a.data.toList.length = a.size := by simp
  have hbl : b.data.toList.length = b.size := by simp
  have hcl : c.data.toList.length = c.size := by simp
  have ma : (a.extract 0 (n : Int).toNat).size ≤ maxLen := by rw [ByteArray.size_extract]; simp only [maxLen]; omega
  have mb : (b.extract 0 (n : Int).toNat).size ≤ maxLen := by rw [ByteArray.size_extract]; simp only [maxLen]; omega
  have mc : (c.extract 0 (n : Int).toNat).size ≤ maxLen := by rw [ByteArray.size_extract]; simp only [maxLen]; omega
  refine does_enter Try.func5 rfl Try.ntmps5 rfl (fun R w0 => ?_)
  simp only [envOf, List.cons_append, List.nil_append]
  refine cw_seq ?_
  refine cw_region ?_
  refine ow_y (y_assign rfl) ?_
  refine ow_nil ?_
  refine kw_code (fun _ _ h => h) ?_
  refine cw_seq ?_
  refine cw_region ?_
  refine ow_y (y_move rfl) ?_
  refine ow_y (y_len_str F.st9 rfl) ?_
  refine ow_y (y_move rfl) ?_
  refine ow_y (y_len_str F.st9 rfl) ?_
  refine ow_y (y_move rfl) ?_
  refine ow_y (y_len_str F.st9 rfl) ?_
  refine ow_y (y_min4 rfl rfl rfl rfl) ?_
  refine ow_y (y_assign rfl) ?_
  refine ow_nil ?_
  rw [hn]
  refine kw_code (fun _ _ h => h) ?_
  refine cw_seq ?_
  refine cw_region ?_
  refine ow_y (y_move rfl) ?_
  refine (ow_makeSlice1 (n := n) F.sl29 F.tb5 F.z5 rfl rfl rfl (by omega) (by omega) (by omega) (by omega) (fun b18 => ?_))
  refine ow_y (y_assign rfl) ?_
  refine ow_nil ?_
  rw [byL_rep]
  refine kw_code (fun _ _ h => h) ?_
  refine cw_seq ?_
  refine cw_seq ?_
  refine cw_region ?_
  refine ow_y (y_move rfl) ?_
  refine ow_y (y_len_slice F.sl29 rfl) ?_
  refine ow_y (y_move rfl) ?_
  refine ow_nil ?_
  refine kw_code (fun _ _ h => h) ?_
  refine cw_block ?_
  refine cw_loop (X := {x : Nat × List UInt8 // x.1 ≤ n ∧ x.2.length = n ∧ ∀ k (h : k < x.2.length) (h1 : k < a.data.toList.length) (h2 : k < b.data.toList.length) (h3 : k < c.data.toList.length), k < x.1 → x.2[k] = a.data.toList[k] ^^^ b.data.toList[k] ^^^ c.data.toList[k]}) (fun x => [(0, .string a), (1, .string b), (2, .string c), (7, .int .i64 n), (8, .slice (some ⟨b18, 0, none⟩) n n), (20, .int .i64 n), (21, .int .i64 x.1.1)]) (fun x => [whole W, R, pts b18 (.cells (x.1.2.map byteV).toArray 5 (0, 0))]) (fun x => n - x.1.1) ⟨(0, List.replicate n 0), by omega, by simp, fun k _ _ _ _ h => absurd h (by simp)⟩ (by repeat (first | exact Sub.nil | refine Sub.cons rfl ?_)) (by repeat (first | exact Split.nil | apply Split.cons (by repeat (first | exact Fnd.here | apply Fnd.there)))) ?_
  rintro ⟨⟨i, bs⟩, hi, hl, hx⟩ m0 hm0
  try simp only at hm0
  try dsimp only
  simp only at hi hl hx
  refine cw_seq ?_
  refine cw_region ?_
  refine ow_y (y_lss rfl rfl) ?_
  refine ow_nil ?_
  refine kw_code (fun _ _ h => h) ?_
  refine cw_seq ?_
  refine cw_if rfl (fun hb22 => ?_) (fun hb22 => ?_)
  · skip
    have hin : i < n := by have := of_decide_eq_true hb22; omega
    have hia : i < a.data.toList.length := by omega
    have hib : i < b.data.toList.length := by omega
    have hic : i < c.data.toList.length := by omega
    have hibs : i < bs.length := by omega
    refine cw_skip ?_
    refine kw_code (fun _ _ h => h) ?_
    refine cw_seq ?_
    refine cw_block ?_
    refine cw_seq ?_
    refine cw_region ?_
    refine ow_y (y_move rfl) ?_
    refine ow_y (y_assign rfl) ?_
    refine ow_nil ?_
    refine kw_code (fun _ _ h => h) ?_
    refine cw_tail 13 F.fol (by kernel_rfl) ?_
    simp only [List.take_succ_cons, List.take_zero, List.drop_succ_cons, List.drop_zero]
    refine os_y (y_move rfl) ?_
    refine os_y (y_move rfl) ?_
    refine os_y (y_move rfl) ?_
    refine os_y (y_move rfl) ?_
    refine os_y (y_byte F.st9 rfl rfl (by omega) (u := a.data.toList[i]) (by simp [hia])) ?_
    refine os_y (y_move rfl) ?_
    refine os_y (y_move rfl) ?_
    refine os_y (y_byte F.st9 rfl rfl (by omega) (u := b.data.toList[i]) (by simp [hib])) ?_
    refine os_y (y_xor rfl rfl) ?_
    refine os_y (y_move rfl) ?_
    refine os_y (y_move rfl) ?_
    refine os_y (y_byte F.st9 rfl rfl (by omega) (u := c.data.toList[i]) (by simp [hic])) ?_
    refine os_y (y_xor rfl rfl) ?_
    refine os_nil ?_
    refine ow_y (y_ixs F.sl29 rfl rfl (by omega)) ?_
    refine ow_store F.sz5 rfl rfl rfl (by simp; omega) (cs' := (bs.set i (a.data.toList[i] ^^^ b.data.toList[i] ^^^ c.data.toList[i])).map byteV) (by rw [List.map_set, xor_u8, xor_u8]; simp; rfl) ?_
    refine ow_nil ?_
    have hnew : ∀ k (h : k < (bs.set i (a.data.toList[i] ^^^ b.data.toList[i] ^^^ c.data.toList[i])).length) (h1 : k < a.data.toList.length) (h2 : k < b.data.toList.length) (h3 : k < c.data.toList.length), k < i + 1 → (bs.set i (a.data.toList[i] ^^^ b.data.toList[i] ^^^ c.data.toList[i]))[k] = a.data.toList[k] ^^^ b.data.toList[k] ^^^ c.data.toList[k] := by
      intro k h h1 h2 h3 hk
      rw [List.getElem_set]
      split
      · rename_i e; subst e; rfl
      · exact hx k (by simpa using h) h1 h2 h3 (by omega)
    refine kw_code (fun _ _ h => h) ?_
    refine cw_region ?_
    refine ow_y (y_addI rfl rfl (by omega)) ?_
    refine ow_y (y_move rfl) ?_
    refine ow_nil ?_
    refine kw_rnd (fun _ _ h => h) (⟨(i + 1, bs.set i (a.data.toList[i] ^^^ b.data.toList[i] ^^^ c.data.toList[i])), hin, by simpa using hl, hnew⟩) (by first | omega | (simp only; omega)) (by repeat (first | exact Sub.nil | refine Sub.cons rfl ?_)) (by repeat (first | exact Split.nil | apply Split.cons (by repeat (first | exact Fnd.here | apply Fnd.there))))
  · skip
    have hin : i = n := by have := of_decide_eq_false hb22; omega
    have hm : (⟨bs.toArray⟩ : ByteArray).size ≤ maxLen := by show bs.toArray.size ≤ _; simp only [maxLen]; simp; omega
    have hthree : Crc.crc bs = Crc.crc (a.extract 0 (n : Int).toNat).data.toList ^^^ Crc.crc (b.extract 0 (n : Int).toNat).data.toList ^^^ Crc.crc (c.extract 0 (n : Int).toNat).data.toList := by
      simp only [take_data, Int.toNat_natCast]
      refine Crc.crc_three _ _ _ _ (by simp; omega) (by simp; omega) (by simp; omega) (fun k h => ?_)
      simp only [List.getElem_take]
      exact hx k h (by omega) (by omega) (by omega) (by omega)
    refine cw_exit ?_
    refine kw_code (fun _ _ h => h) ?_
    refine cw_seq ?_
    refine cw_float (.hard 0 (.soft 1 (.soft 2 (.soft 3 (.soft 6 (.soft 7 (.soft 8 (.soft 11 (.soft 12 (.soft 13 (.soft 17 (.soft 18 (.soft 19 (.float 20 (.float 14 (.float 9 (.hard 4 (.hard 5 (.res (.hard 10 (.res (.hard 15 (.soft 16 (.res (.hard 21 (.soft 22 (.soft 23 (.soft 24 (.soft 25 .done))))))))))))))))))))))))))))) [pts b18 (.cells (bs.map byteV).toArray 5 (0, 0))] F.fol (by kernel_rfl) (by repeat (first | exact NoSlots.bp | apply NoSlots.then | apply NoSlots.inBlock)) (by repeat (first | exact Split.nil | apply Split.cons (by repeat (first | exact Fnd.here | apply Fnd.there)))) ?_
    refine omf_hard rfl (fun hok EE FF => ?_)
    simp only [List.cons_append, List.nil_append]
    refine ow_gives rfl F.hb12 rfl (crcAwake_spec) (by repeat (first | exact Split.nil | apply Split.cons (by repeat (first | exact Fnd.here | apply Fnd.there)))) ?_
    simp only [List.cons_append, List.nil_append]
    refine ow_nil ?_
    refine omf_next (E := EE) (F := FF) (by repeat (first | exact Tl.nil | apply Tl.cons)) (by repeat (first | exact Fnd.here | apply Fnd.there)) (by repeat (first | exact Split.nil | apply Split.cons (by repeat (first | exact Fnd.here | apply Fnd.there)))) (hok.put rfl) ?_
    refine omf_y rfl (y_move rfl) ?_
    refine omf_yg rfl (y_move rfl) (fun a w hh => (want_of rfl rfl rfl hh).trans (wTT (by first | rfl | exact decide_eq_true (by omega)))) ?_
    refine omf_yg rfl (y_text F.sl29 F.st9 F.by5 rfl (l := bs) (by omega) (by rw [List.drop_zero, List.take_of_length_le (by simp; omega)])) (fun a w hh => (want_of rfl rfl rfl hh).trans (wTT (by first | rfl | exact decide_eq_true (by omega)))) ?_
    refine omf_yg rfl (y_move rfl) (fun a w hh => (want_of rfl rfl rfl hh).trans (wTT (by first | rfl | exact decide_eq_true (by omega)))) ?_
    refine omf_yg rfl (y_move rfl) (fun a w hh => (want_of rfl rfl rfl hh).trans (wTT (by first | rfl | exact decide_eq_true (by omega)))) ?_
    refine omf_yg rfl (y_cutH F.st9 rfl rfl (by omega)) (fun a w hh => (want_of rfl rfl rfl hh).trans (wTT (by first | rfl | exact decide_eq_true (by omega)))) ?_
    refine omf_yg rfl (y_move rfl) (fun a w hh => (want_of rfl rfl rfl hh).trans (wTT (by first | rfl | exact decide_eq_true (by omega)))) ?_
    refine omf_yg rfl (y_move rfl) (fun a w hh => (want_of rfl rfl rfl hh).trans (wTT (by first | rfl | exact decide_eq_true (by omega)))) ?_
    refine omf_yg rfl (y_cutH F.st9 rfl rfl (by omega)) (fun a w hh => (want_of rfl rfl rfl hh).trans (wTT (by first | rfl | exact decide_eq_true (by omega)))) ?_
    refine omf_yg rfl (y_move rfl) (fun a w hh => (want_of rfl rfl rfl hh).trans (wTT (by first | rfl | exact decide_eq_true (by omega)))) ?_
    refine omf_yg rfl (y_move rfl) (fun a w hh => (want_of rfl rfl rfl hh).trans (wTT (by first | rfl | exact decide_eq_true (by omega)))) ?_
    refine omf_yg rfl (y_cutH F.st9 rfl rfl (by omega)) (fun a w hh => (want_of rfl rfl rfl hh).trans (wTT (by first | rfl | exact decide_eq_true (by omega)))) ?_
    refine omf_fbuildSlice (e0 := [(40, _), (58, _)]) rfl (by repeat (first | exact Sub.nil | refine Sub.cons rfl ?_)) (fun a w hh => (want_of rfl rfl rfl hh).trans (wTT (by first | rfl | exact decide_eq_true (by omega)))) F.sl59 F.z9 rfl rfl rfl (by simp [fillL, madeL, Value.cells] <;> rfl) rfl ?_
    refine omf_fbuildSlice (e0 := [(40, _), (52, _)]) rfl (by repeat (first | exact Sub.nil | refine Sub.cons rfl ?_)) (fun a w hh => (want_of rfl rfl rfl hh).trans (wTT (by first | rfl | exact decide_eq_true (by omega)))) F.sl59 F.z9 rfl rfl rfl (by simp [fillL, madeL, Value.cells] <;> rfl) rfl ?_
    refine omf_fbuildSlice (e0 := [(40, _), (47, _)]) rfl (by repeat (first | exact Sub.nil | refine Sub.cons rfl ?_)) (fun a w hh => (want_of rfl rfl rfl hh).trans (wTT (by first | rfl | exact decide_eq_true (by omega)))) F.sl59 F.z9 rfl rfl rfl (by simp [fillL, madeL, Value.cells] <;> rfl) rfl ?_
    refine omf_hard rfl (fun hok EE FF => ?_)
    simp only [List.cons_append, List.nil_append]
    refine ow_want (fun a w hh => (want_of rfl rfl rfl hh).trans (wTT (by first | rfl | exact decide_eq_true (by omega)))) ?_
    refine (ow_buildSlice F.sl59 F.z9 rfl rfl rfl (by simp [fillL, madeL, Value.cells] <;> rfl) (fun b43 => ?_))
    refine ow_nil ?_
    refine omf_next (E := EE) (F := FF) (by repeat (first | exact Tl.nil | apply Tl.cons)) (by repeat (first | exact Fnd.here | apply Fnd.there)) (by repeat (first | exact Split.nil | apply Split.cons (by repeat (first | exact Fnd.here | apply Fnd.there)))) (hok.put rfl) ?_
    refine omf_hard rfl (fun hok EE FF => ?_)
    simp only [List.cons_append, List.nil_append]
    refine ow_want (fun a w hh => (want_of rfl rfl rfl hh).trans (wTT (by first | rfl | exact decide_eq_true (by omega)))) ?_
    refine ow_gives rfl F.hb13 rfl (sum1_spec b43 1 _ hm) (by repeat (first | exact Split.nil | apply Split.cons (by repeat (first | exact Fnd.here | apply Fnd.there)))) ?_
    simp only [List.cons_append, List.nil_append]
    refine ow_nil ?_
    refine omf_next (E := EE) (F := FF) (by repeat (first | exact Tl.nil | apply Tl.cons)) (by repeat (first | exact Fnd.here | apply Fnd.there)) (by repeat (first | exact Split.nil | apply Split.cons (by repeat (first | exact Fnd.here | apply Fnd.there)))) (hok.put rfl) ?_
    refine omf_res (fun b48 => ?_)
    dsimp only
    refine omf_hard rfl (fun hok EE FF => ?_)
    simp only [List.cons_append, List.nil_append]
    refine ow_want (fun a w hh => (want_of rfl rfl rfl hh).trans (wTT (by first | rfl | exact decide_eq_true (by omega)))) ?_
    refine ow_gives rfl F.hb13 rfl (sum1_spec b48 1 _ ma) (by repeat (first | exact Split.nil | apply Split.cons (by repeat (first | exact Fnd.here | apply Fnd.there)))) ?_
    simp only [List.cons_append, List.nil_append]
    refine ow_nil ?_
    refine omf_next (E := EE) (F := FF) (by repeat (first | exact Tl.nil | apply Tl.cons)) (by repeat (first | exact Fnd.here | apply Fnd.there)) (by repeat (first | exact Split.nil | apply Split.cons (by repeat (first | exact Fnd.here | apply Fnd.there)))) (hok.put rfl) ?_
    refine omf_res (fun b53 => ?_)
    dsimp only
    refine omf_hard rfl (fun hok EE FF => ?_)
    simp only [List.cons_append, List.nil_append]
    refine ow_want (fun a w hh => (want_of rfl rfl rfl hh).trans (wTT (by first | rfl | exact decide_eq_true (by omega)))) ?_
    refine ow_gives rfl F.hb13 rfl (sum1_spec b53 1 _ mb) (by repeat (first | exact Split.nil | apply Split.cons (by repeat (first | exact Fnd.here | apply Fnd.there)))) ?_
    simp only [List.cons_append, List.nil_append]
    refine ow_nil ?_
    refine omf_next (E := EE) (F := FF) (by repeat (first | exact Tl.nil | apply Tl.cons)) (by repeat (first | exact Fnd.here | apply Fnd.there)) (by repeat (first | exact Split.nil | apply Split.cons (by repeat (first | exact Fnd.here | apply Fnd.there)))) (hok.put rfl) ?_
    refine omf_yg rfl (y_xor rfl rfl) (fun a w hh => (want_of rfl rfl rfl hh).trans (wTT (by first | rfl | exact decide_eq_true (by omega)))) ?_
    refine omf_res (fun b59 => ?_)
    dsimp only
    refine omf_hard rfl (fun hok EE FF => ?_)
    simp only [List.cons_append, List.nil_append]
    refine ow_want (fun a w hh => (want_of rfl rfl rfl hh).trans (wTT (by first | rfl | exact decide_eq_true (by omega)))) ?_
    refine ow_gives rfl F.hb13 rfl (sum1_spec b59 1 _ mc) (by repeat (first | exact Split.nil | apply Split.cons (by repeat (first | exact Fnd.here | apply Fnd.there)))) ?_
    simp only [List.cons_append, List.nil_append]
    refine ow_nil ?_
    refine omf_next (E := EE) (F := FF) (by repeat (first | exact Tl.nil | apply Tl.cons)) (by repeat (first | exact Fnd.here | apply Fnd.there)) (by repeat (first | exact Split.nil | apply Split.cons (by repeat (first | exact Fnd.here | apply Fnd.there)))) (hok.put rfl) ?_
    refine omf_yg rfl (y_xor rfl rfl) (fun a w hh => (want_of rfl rfl rfl hh).trans (wTT (by first | rfl | exact decide_eq_true (by omega)))) ?_
    refine omf_yg rfl (y_eql rfl rfl) (fun a w hh => (want_of rfl rfl rfl hh).trans (wTT (by first | rfl | exact decide_eq_true (by omega)))) ?_
    refine omf_y rfl (y_pickT rfl (by first | rfl | exact decide_eq_true (by omega)) rfl) ?_
    refine omf_y rfl (y_assign rfl) ?_
    refine omf_nil ?_
    refine kw_code (fun _ _ h => h) ?_
    refine cw_retG (fun _ _ h => h) rfl (by rw [xor_u32, xor_u32, ← hthree]; simp) (by repeat (first | exact Split.nil | apply Split.cons (by repeat (first | exact Fnd.here | apply Fnd.there))))
end Go.Proofs.Ytofffddcbjkdcaa
