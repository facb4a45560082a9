/- Part of the proof; no statement of its own: C6. -/
import Derived.Test.YtofffddcbjkdcaaC5
set_option linter.all false
namespace Go.Proofs.Ytofffddcbjkdcaa
open Go.Sl
def behS (s : ByteArray) : ByteArray := s ++ ⟨(Crc.le4 (Crc.crc s.data.toList)).toArray⟩
theorem behS_list (s : ByteArray) : (behS s).data.toList = s.data.toList ++ Crc.le4 (Crc.crc s.data.toList) := by simp [behS]
theorem behS_size (s : ByteArray) : (behS s).size = s.size + 4 := by
  have : (behS s).data.toList.length = s.data.toList.length + 4 := by rw [behS_list]; simp [Crc.le4]
  simpa using this
theorem le4_0 (x : BitVec 32) : IntKind.u8.wrap (x.toNat : Int) = (((⟨x.setWidth 8⟩ : UInt8).toNat : Nat) : Int) := by
  rw [IntKind.wrap_u8]
  show _ = ((x.setWidth 8).toNat : Int)
  rw [BitVec.toNat_setWidth]; omega
theorem le4_k (x : BitVec 32) (k : Nat) : IntKind.u8.wrap ((x.toNat : Int) / 2 ^ k) = (((⟨(x >>> k).setWidth 8⟩ : UInt8).toNat : Nat) : Int) := by
  have h : ((x.toNat : Int) / 2 ^ k) = ((x >>> k).toNat : Int) := by simp [Nat.shiftRight_eq_div_pow]
  rw [h]; exact le4_0 _
theorem own_spec (s : ByteArray) (hs : s.size ≤ 200) : Does Try.prog 15 #[.string s] [] (Gives (.string (behS s)) []) := by
  have hm : s.size ≤ maxLen := by simp only [maxLen]; omega
  refine does_enter Try.func15 rfl Try.ntmps15 rfl (fun R w0 => ?_)
  simp only [envOf, List.cons_append, List.nil_append]
  refine cw_seq ?_
  refine cw_region ?_
  refine ow_y (y_assign rfl) ?_
  refine ow_nil ?_
  refine kw_code (fun _ _ h => h) ?_
  refine cw_seq ?_
  refine cw_region ?_
  refine ow_y (y_move rfl) ?_
  refine (ow_buildSlice F.sl59 F.z9 rfl rfl rfl (by simp [fillL, madeL, Value.cells] <;> rfl) (fun b5 => ?_))
  refine ow_gives rfl F.hb13 rfl (sum1_spec b5 1 s hm) (by repeat (first | exact Split.nil | apply Split.cons (by repeat (first | exact Fnd.here | apply Fnd.there)))) ?_
  simp only [List.cons_append, List.nil_append]
  refine ow_y (y_assign rfl) ?_
  refine ow_nil ?_
  refine kw_code (fun _ _ h => h) ?_
  refine cw_seq ?_
  refine cw_region ?_
  refine ow_y (y_move rfl) ?_
  refine ow_y (y_move rfl) ?_
  refine ow_y (y_conv F.ts24 F.in5 rfl) ?_
  refine ow_y (y_move rfl) ?_
  refine ow_y (y_shr rfl rfl (by decide)) ?_
  refine ow_y (y_conv F.ts24 F.in5 rfl) ?_
  refine ow_y (y_move rfl) ?_
  refine ow_y (y_shr rfl rfl (by decide)) ?_
  refine ow_y (y_conv F.ts24 F.in5 rfl) ?_
  refine ow_y (y_move rfl) ?_
  refine ow_y (y_shr rfl rfl (by decide)) ?_
  refine ow_y (y_conv F.ts24 F.in5 rfl) ?_
  simp only [show Int.toNat 8 = 8 from rfl, show Int.toNat 16 = 16 from rfl, show Int.toNat 24 = 24 from rfl, le4_k, le4_0]
  refine (ow_buildSlice F.sl29 F.z5 rfl rfl rfl (by simp [fillL, madeL, Value.cells] <;> rfl) (fun b19 => ?_))
  refine ow_y (y_text F.sl29 F.st9 F.by5 rfl (l := Crc.le4 (Crc.crc s.data.toList)) (by rfl) (by rfl)) ?_
  refine ow_y (y_str_add rfl rfl (by show s.size + 4 ≤ _; omega)) ?_
  refine ow_y (y_assign rfl) ?_
  refine ow_nil ?_
  refine kw_code (fun _ _ h => h) ?_
  refine cw_retG (fun _ _ h => h) rfl rfl (by repeat (first | exact Split.nil | apply Split.cons (by repeat (first | exact Fnd.here | apply Fnd.there))))
theorem crcBehind_walk (W : World) (a_ : ByteArray) (ha_ : a_.size ≤ maxLen) (b_ : ByteArray) (hb_ : b_.size ≤ maxLen) :
    Does Try.prog 6 #[.string a_, .string b_] [whole W] (Gives (.bool true) [whole W]) := by
  have hca := cut_spec a_ 200 ha_
  have hla := cutS_le a_ 200
  generalize cutS a_ 200 = a at hca hla
  have hcb := cut_spec b_ 200 hb_
  have hlb := cutS_le b_ 200
  generalize cutS b_ 200 = b at hcb hlb
  have hma : (behS a).size ≤ maxLen := by rw [behS_size]; simp only [maxLen]; omega
  have hmb : (behS b).size ≤ maxLen := by rw [behS_size]; simp only [maxLen]; omega
  have hs : ∀ (s : ByteArray) (_ : (behS s).size ≤ maxLen) (k : Nat), Does Try.prog 13 #[.slice (some ⟨k, 0, none⟩) 1 1] [pts k (.cells #[.string (behS s)] 9 (0, 0))] (Gives (.int .u32 1214729159) []) := by
    intro s hs k
    have := sum1_spec k 1 (behS s) hs
    rw [behS_list, Crc.crc_behind] at this
    exact this
  refine does_enter Try.func6 rfl Try.ntmps6 rfl (fun R w0 => ?_)
  simp only [envOf, List.cons_append, List.nil_append]
  refine cw_seq ?_
  refine cw_region ?_
  refine ow_y (y_assign rfl) ?_
  refine ow_nil ?_
  refine kw_code (fun _ _ h => h) ?_
  refine cw_seq ?_
  refine cw_region ?_
  refine ow_y (y_move rfl) ?_
  refine ow_gives rfl F.hb11 rfl (hca) (by repeat (first | exact Split.nil | apply Split.cons (by repeat (first | exact Fnd.here | apply Fnd.there)))) ?_
  simp only [List.cons_append, List.nil_append]
  refine ow_y (y_move rfl) ?_
  refine ow_gives rfl F.hb11 rfl (hcb) (by repeat (first | exact Split.nil | apply Split.cons (by repeat (first | exact Fnd.here | apply Fnd.there)))) ?_
  simp only [List.cons_append, List.nil_append]
  refine ow_y (y_assign rfl) ?_
  refine ow_y (y_assign rfl) ?_
  refine ow_nil ?_
  refine kw_code (fun _ _ h => h) ?_
  refine cw_seq ?_
  refine cw_region ?_
  refine ow_y (y_assign rfl) ?_
  refine ow_nil ?_
  refine kw_code (fun _ _ h => h) ?_
  refine cw_seq ?_
  refine cw_region ?_
  refine ow_gives rfl F.hb12 rfl (crcAwake_spec) (by repeat (first | exact Split.nil | apply Split.cons (by repeat (first | exact Fnd.here | apply Fnd.there)))) ?_
  simp only [List.cons_append, List.nil_append]
  refine ow_y (y_move rfl) ?_
  refine ow_yg (y_move rfl) (fun a w hh => (want_of rfl rfl rfl hh).trans (wTT (by first | rfl | exact decide_eq_true (by omega)))) ?_
  refine ow_yg (y_move rfl) (fun a w hh => (want_of rfl rfl rfl hh).trans (wTT (by first | rfl | exact decide_eq_true (by omega)))) ?_
  refine ow_want (fun a w hh => (want_of rfl rfl rfl hh).trans (wTT (by first | rfl | exact decide_eq_true (by omega)))) ?_
  refine ow_gives rfl F.hb15 rfl (own_spec a hla) (by repeat (first | exact Split.nil | apply Split.cons (by repeat (first | exact Fnd.here | apply Fnd.there)))) ?_
  simp only [List.cons_append, List.nil_append]
  refine ow_want (fun a w hh => (want_of rfl rfl rfl hh).trans (wTT (by first | rfl | exact decide_eq_true (by omega)))) ?_
  refine (ow_buildSlice F.sl59 F.z9 rfl rfl rfl (by simp [fillL, madeL, Value.cells] <;> rfl) (fun b15 => ?_))
  refine ow_want (fun a w hh => (want_of rfl rfl rfl hh).trans (wTT (by first | rfl | exact decide_eq_true (by omega)))) ?_
  refine ow_gives rfl F.hb13 rfl (hs a hma b15) (by repeat (first | exact Split.nil | apply Split.cons (by repeat (first | exact Fnd.here | apply Fnd.there)))) ?_
  simp only [List.cons_append, List.nil_append]
  refine ow_yg (y_move rfl) (fun a w hh => (want_of rfl rfl rfl hh).trans (wTT (by first | rfl | exact decide_eq_true (by omega)))) ?_
  refine ow_yg (y_move rfl) (fun a w hh => (want_of rfl rfl rfl hh).trans (wTT (by first | rfl | exact decide_eq_true (by omega)))) ?_
  refine ow_want (fun a w hh => (want_of rfl rfl rfl hh).trans (wTT (by first | rfl | exact decide_eq_true (by omega)))) ?_
  refine ow_gives rfl F.hb15 rfl (own_spec b hlb) (by repeat (first | exact Split.nil | apply Split.cons (by repeat (first | exact Fnd.here | apply Fnd.there)))) ?_
  simp only [List.cons_append, List.nil_append]
  refine ow_want (fun a w hh => (want_of rfl rfl rfl hh).trans (wTT (by first | rfl | exact decide_eq_true (by omega)))) ?_
  refine (ow_buildSlice F.sl59 F.z9 rfl rfl rfl (by simp [fillL, madeL, Value.cells] <;> rfl) (fun b20 => ?_))
  refine ow_want (fun a w hh => (want_of rfl rfl rfl hh).trans (wTT (by first | rfl | exact decide_eq_true (by omega)))) ?_
  refine ow_gives rfl F.hb13 rfl (hs b hmb b20) (by repeat (first | exact Split.nil | apply Split.cons (by repeat (first | exact Fnd.here | apply Fnd.there)))) ?_
  simp only [List.cons_append, List.nil_append]
  refine ow_yg (y_eql rfl rfl) (fun a w hh => (want_of rfl rfl rfl hh).trans (wTT (by first | rfl | exact decide_eq_true (by omega)))) ?_
  refine ow_y (y_pickT rfl (by first | rfl | exact decide_eq_true (by omega)) rfl) ?_
  refine ow_y (y_move rfl) ?_
  refine ow_yg (y_move rfl) (fun a w hh => (want_of rfl rfl rfl hh).trans (wTT (by first | rfl | exact decide_eq_true (by omega)))) ?_
  refine ow_yg (y_move rfl) (fun a w hh => (want_of rfl rfl rfl hh).trans (wTT (by first | rfl | exact decide_eq_true (by omega)))) ?_
  refine ow_want (fun a w hh => (want_of rfl rfl rfl hh).trans (wTT (by first | rfl | exact decide_eq_true (by omega)))) ?_
  refine ow_gives rfl F.hb15 rfl (own_spec a hla) (by repeat (first | exact Split.nil | apply Split.cons (by repeat (first | exact Fnd.here | apply Fnd.there)))) ?_
  simp only [List.cons_append, List.nil_append]
  refine ow_want (fun a w hh => (want_of rfl rfl rfl hh).trans (wTT (by first | rfl | exact decide_eq_true (by omega)))) ?_
  refine (ow_buildSlice F.sl59 F.z9 rfl rfl rfl (by simp [fillL, madeL, Value.cells] <;> rfl) (fun b28 => ?_))
  refine ow_want (fun a w hh => (want_of rfl rfl rfl hh).trans (wTT (by first | rfl | exact decide_eq_true (by omega)))) ?_
  refine ow_gives rfl F.hb13 rfl (hs a hma b28) (by repeat (first | exact Split.nil | apply Split.cons (by repeat (first | exact Fnd.here | apply Fnd.there)))) ?_
  simp only [List.cons_append, List.nil_append]
  refine ow_yg (y_eql rfl rfl) (fun a w hh => (want_of rfl rfl rfl hh).trans (wTT (by first | rfl | exact decide_eq_true (by omega)))) ?_
  refine ow_y (y_pickT rfl (by first | rfl | exact decide_eq_true (by omega)) rfl) ?_
  refine ow_y (y_assign rfl) ?_
  refine ow_nil ?_
  refine kw_code (fun _ _ h => h) ?_
  refine cw_retG (fun _ _ h => h) rfl rfl (by repeat (first | exact Split.nil | apply Split.cons (by repeat (first | exact Fnd.here | apply Fnd.there))))
end Go.Proofs.Ytofffddcbjkdcaa
