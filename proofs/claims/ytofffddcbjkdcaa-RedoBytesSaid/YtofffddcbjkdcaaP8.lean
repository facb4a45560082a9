/- Part of the proof; no statement of its own: P8. -/
import Derived.Test.YtofffddcbjkdcaaP7
set_option linter.all false
namespace Go.Proofs.Ytofffddcbjkdcaa
open Go.Sl
theorem obytes_spec (b : Nat) (v : Value) (l : List UInt8) (h1 : v.oneCell' = true) : Does Try.prog 40 #[.pointer (some ⟨b, 0, none⟩)] (pout b v l) (Gives (.string (bs l)) []) := by
  refine does_enter Try.func40 rfl Try.ntmps40 rfl (fun R w0 => ?_)
  simp only [envOf, List.cons_append, List.nil_append]
  refine cw_seq ?_
  refine cw_region ?_
  refine ow_y (y_assign rfl) ?_
  refine ow_nil ?_
  refine kw_code (fun _ _ h => h) ?_
  refine cw_seq ?_
  refine cw_region ?_
  refine ow_y (y_move rfl) ?_
  refine ow_y (y_nil rfl) ?_
  refine ow_y (y_fld F.fld69_0 rfl) ?_
  refine ow_y (y_load F.sc29 rfl (by rfl)) ?_
  refine ow_y (y_textRow F.sl29 F.st9 F.by5 rfl (by repeat (first | exact Fnd.here | apply Fnd.there))) ?_
  refine ow_y (y_assign rfl) ?_
  refine ow_nil ?_
  refine kw_code (fun _ _ h => h) ?_
  refine cw_retG (fun _ _ h => h) rfl rfl (by repeat (first | exact Split.nil | apply Split.cons (by repeat (first | exact Fnd.here | apply Fnd.there))))
/-- an op's bytes -/
def opB (kind id at_ n : Nat) (data : List UInt8) : List UInt8 := beB kind 1 1 ++ beB id 4 4 ++ beB at_ 2 2 ++ beB n 2 2 ++ data
theorem opBytes_spec (kind id at_ n : Nat) (data : ByteArray) (hk : kind < 256) (hid : id < 4294967296) (ha : at_ < 65536) (hn : n < 65536) (hd : data.size ≤ 1000) :
    Does Try.prog 29 #[.agg (opC kind id at_ n data).toArray] [] (Gives (.string (bs (opB kind id at_ n data.data.toList))) []) := by
  have w1 : IntKind.u64.wrap (kind : Int) = (kind : Int) := wrap_u64 _ _ rfl (by omega)
  have w2 : IntKind.u64.wrap (id : Int) = (id : Int) := wrap_u64 _ _ rfl (by omega)
  have w3 : IntKind.u64.wrap (at_ : Int) = (at_ : Int) := wrap_u64 _ _ rfl (by omega)
  have w4 : IntKind.u64.wrap (n : Int) = (n : Int) := wrap_u64 _ _ rfl (by omega)
  have hdl : data.data.toList.length = data.size := by simp
  refine does_enter Try.func29 rfl Try.ntmps29 rfl (fun R w0 => ?_)
  simp only [envOf, List.cons_append, List.nil_append, opC]
  refine cw_seq ?_
  refine cw_region ?_
  refine (ow_box rfl (fun b1 => ?_))
  refine ow_y (y_assign rfl) ?_
  refine ow_nil ?_
  refine kw_code (fun _ _ h => h) ?_
  refine cw_seq ?_
  refine cw_region ?_
  refine (ow_alloc F.z69 (fun b3 => ?_))
  refine ow_nil ?_
  refine kw_code (fun _ _ h => h) ?_
  refine cw_seq ?_
  refine cw_said (L' := pout b3 (.slice none 0 0) [] ++ [pts b1 (.cells #[.int .i64 kind, .int .u32 id, .int .i64 at_, .int .i64 n, .string data] 46 (0, 0)), R]) (fun w h => (sat_row_nil 5 1 w h).perm (List.Perm.swap _ _ _)) ?_
  simp only [List.cons_append, List.nil_append]
  refine cw_mix (.soft 0 (.soft 1 (.soft 2 (.soft 4 (.soft 5 (.soft 6 (.soft 8 (.soft 9 (.soft 10 (.soft 12 (.soft 13 (.soft 14 (.soft 16 (.soft 17 (.hard 3 (.hard 7 (.hard 11 (.hard 15 (.hard 18 (.hard 19 (.soft 20 .done))))))))))))))))))))) [pts b1 (.cells #[.int .i64 kind, .int .u32 id, .int .i64 at_, .int .i64 n, .string data] 46 (0, 0))] F.fol (by kernel_rfl) (by repeat (first | with_reducible exact NoSlots.bp | with_reducible apply NoSlots.then | with_reducible apply NoSlots.inBlock)) (by repeat (first | exact Split.nil | apply Split.cons (by repeat (first | exact Fnd.here | apply Fnd.there)))) ?_
  refine om_y rfl (y_fld F.fld46_0 rfl) ?_
  refine om_y rfl (y_load F.sc3 rfl (by rfl)) ?_
  refine om_y rfl (y_conv F.ts3 F.in72 rfl) ?_
  refine om_y rfl (y_fld F.fld46_1 rfl) ?_
  refine om_y rfl (y_load F.sc24 rfl (by rfl)) ?_
  refine om_y rfl (y_conv F.ts24 F.in72 rfl) ?_
  refine om_y rfl (y_fld F.fld46_2 rfl) ?_
  refine om_y rfl (y_load F.sc3 rfl (by rfl)) ?_
  refine om_y rfl (y_conv F.ts3 F.in72 rfl) ?_
  refine om_y rfl (y_fld F.fld46_3 rfl) ?_
  refine om_y rfl (y_load F.sc3 rfl (by rfl)) ?_
  refine om_y rfl (y_conv F.ts3 F.in72 rfl) ?_
  refine om_y rfl (y_fld F.fld46_4 rfl) ?_
  refine om_y rfl (y_load F.sc9 rfl (by rfl)) ?_
  refine om_h rfl ?_
  simp only [w1, w2, w3, w4]
  refine ow_givesE rfl F.hb38 rfl (onum_spec b3 (.slice none 0 0) [] kind 1 (by omega) (by simp) rfl (by omega)) (by repeat (first | exact Split.nil | apply Split.cons (by repeat (first | exact Fnd.here | apply Fnd.there)))) ?_
  rintro v7 hv7
  simp only [List.cons_append, List.nil_append]
  refine ow_nil ?_
  refine om_next (by repeat (first | exact Split.nil | apply Split.cons (by repeat (first | exact Fnd.here | apply Fnd.there)))) ?_
  refine om_h rfl ?_
  refine ow_givesE rfl F.hb38 rfl (onum_spec b3 v7 ([] ++ beB kind 1 1) id 4 (by omega) (by simp [beB_len]) hv7 (by omega)) (by repeat (first | exact Split.nil | apply Split.cons (by repeat (first | exact Fnd.here | apply Fnd.there)))) ?_
  rintro v11 hv11
  simp only [List.cons_append, List.nil_append]
  refine ow_nil ?_
  refine om_next (by repeat (first | exact Split.nil | apply Split.cons (by repeat (first | exact Fnd.here | apply Fnd.there)))) ?_
  refine om_h rfl ?_
  refine ow_givesE rfl F.hb38 rfl (onum_spec b3 v11 ([] ++ beB kind 1 1 ++ beB id 4 4) at_ 2 (by omega) (by simp [beB_len]) hv11 (by omega)) (by repeat (first | exact Split.nil | apply Split.cons (by repeat (first | exact Fnd.here | apply Fnd.there)))) ?_
  rintro v15 hv15
  simp only [List.cons_append, List.nil_append]
  refine ow_nil ?_
  refine om_next (by repeat (first | exact Split.nil | apply Split.cons (by repeat (first | exact Fnd.here | apply Fnd.there)))) ?_
  refine om_h rfl ?_
  refine ow_givesE rfl F.hb38 rfl (onum_spec b3 v15 ([] ++ beB kind 1 1 ++ beB id 4 4 ++ beB at_ 2 2) n 2 (by omega) (by simp [beB_len]) hv15 (by omega)) (by repeat (first | exact Split.nil | apply Split.cons (by repeat (first | exact Fnd.here | apply Fnd.there)))) ?_
  rintro v19 hv19
  simp only [List.cons_append, List.nil_append]
  refine ow_nil ?_
  refine om_next (by repeat (first | exact Split.nil | apply Split.cons (by repeat (first | exact Fnd.here | apply Fnd.there)))) ?_
  refine om_h rfl ?_
  refine ow_givesE rfl F.hb39 rfl (otext_spec b3 v19 ([] ++ beB kind 1 1 ++ beB id 4 4 ++ beB at_ 2 2 ++ beB n 2 2) data (by simp [beB_len]) (by omega) hv19) (by repeat (first | exact Split.nil | apply Split.cons (by repeat (first | exact Fnd.here | apply Fnd.there)))) ?_
  rintro v22 hv22
  simp only [List.cons_append, List.nil_append]
  refine ow_nil ?_
  refine om_next (by repeat (first | exact Split.nil | apply Split.cons (by repeat (first | exact Fnd.here | apply Fnd.there)))) ?_
  refine om_h rfl ?_
  refine ow_gives rfl F.hb40 rfl (obytes_spec b3 v22 _ hv22) (by repeat (first | exact Split.nil | apply Split.cons (by repeat (first | exact Fnd.here | apply Fnd.there)))) ?_
  simp only [List.cons_append, List.nil_append]
  refine ow_nil ?_
  refine om_next (by repeat (first | exact Split.nil | apply Split.cons (by repeat (first | exact Fnd.here | apply Fnd.there)))) ?_
  refine om_y rfl (y_assign rfl) ?_
  refine om_nil ?_
  refine kw_code (fun _ _ h => h) ?_
  refine cw_retG (fun _ _ h => h) rfl rfl (by repeat (first | exact Split.nil | apply Split.cons (by repeat (first | exact Fnd.here | apply Fnd.there))))
end Go.Proofs.Ytofffddcbjkdcaa
