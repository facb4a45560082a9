/- Part of the proof; no statement of its own: U6, U7, U8, U9. -/
import Derived.Test.YthlclfdnhnnebaaGreatDoorB08
import Derived.Test.YthlclfdnhnnebaaGreatDoorB06
import Derived.Test.YthlclfdnhnnebaaGreatDoorB11
import Derived.Test.YthlclfdnhnnebaaGreatDoorB07
set_option linter.all false
section
set_option maxRecDepth 4000
set_option maxHeartbeats 4000000
namespace Go.Proofs.YthlclfdnhnnebaaGreatDoor
open Go.Sl Go.Sb
theorem rangeR {k : Int} (h : inR k = true) : -9223372036854775808 ≤ k ∧ k ≤ 9223372036854775807 := by simpa [inR] using h
theorem restInt_spec (mb : Nat) (m : List (Int × Int)) (k : Int) (w : Option Int) : Does Tryz.prog 260 #[.map (some mb), .int .i64 k, .int .i64 (w.getD 0), .bool w.isSome] [mapP mb intV intV m] (Gives (.tuple #[]) [mapP mb intV intV (restore k w m)]) := by
  cases w with
  | none =>
    refine does_enter Tryz.func260 rfl Tryz.ntmps260 rfl (fun R w0 => ?_)
    simp only [envOf, List.cons_append, List.nil_append, Option.getD_none, Option.isSome_none]
    refine cw_seq ?_
    refine cw_seq ?_
    refine cw_region ?_
    refine ow_y (y_move rfl) ?_
    refine ow_y (y_not rfl) ?_
    refine ow_nil ?_
    refine kw_code (fun _ _ h => h) ?_
    refine cw_true rfl (by first | rfl | exact decide_eq_true (by omega)) ?_
    refine cw_seq ?_
    refine cw_region ?_
    refine ow_y (y_move rfl) ?_
    refine ow_y (y_move rfl) ?_
    refine (ow_mapDel (ek := intV) (ev := intV) F.mp142 keyI (tt fun _ => trivial) trivial rfl rfl aFd ?_)
    refine ow_nil ?_
    refine kw_code (fun _ _ h => h) ?_
    refine cw_retG (fun _ _ h => h) rfl rfl aSp
  | some v =>
    refine does_enter Tryz.func260 rfl Tryz.ntmps260 rfl (fun R w0 => ?_)
    simp only [envOf, List.cons_append, List.nil_append, Option.getD_some, Option.isSome_some]
    refine cw_seq ?_
    refine cw_seq ?_
    refine cw_region ?_
    refine ow_y (y_move rfl) ?_
    refine ow_y (y_not rfl) ?_
    refine ow_nil ?_
    refine kw_code (fun _ _ h => h) ?_
    refine cw_false rfl (by first | rfl | exact decide_eq_false (by omega)) ?_
    refine cw_skip ?_
    refine kw_code (fun _ _ h => h) ?_
    refine cw_region ?_
    refine ow_y (y_move rfl) ?_
    refine ow_y (y_move rfl) ?_
    refine ow_y (y_move rfl) ?_
    refine (ow_mapPut (ek := intV) (ev := intV) F.mp142 keyI (tt fun _ => trivial) trivial rfl rfl rfl aFd ?_)
    refine ow_nil ?_
    refine kw_finG rfl rfl aSp
theorem restSum_spec (mb : Nat) (m : List (B × Int)) (k : B) (w : Option Int) (hm : ∀ p ∈ m, p.1.length = 32) (hk : k.length = 32) : Does Tryz.prog 212 #[.map (some mb), sumV k, .int .i64 (w.getD 0), .bool w.isSome] [mapP mb sumV intV m] (Gives (.tuple #[]) [mapP mb sumV intV (restore k w m)]) := by
  cases w with
  | none =>
    refine does_enter Tryz.func212 rfl Tryz.ntmps212 rfl (fun R w0 => ?_)
    simp only [envOf, List.cons_append, List.nil_append, Option.getD_none, Option.isSome_none]
    refine cw_seq ?_
    refine cw_region ?_
    refine (ow_box rfl (fun b5 => ?_))
    refine ow_nil ?_
    refine kw_code (fun _ _ h => h) ?_
    refine cw_seq ?_
    refine cw_seq ?_
    refine cw_region ?_
    refine ow_y (y_move rfl) ?_
    refine ow_y (y_not rfl) ?_
    refine ow_nil ?_
    refine kw_code (fun _ _ h => h) ?_
    refine cw_true rfl (by first | rfl | exact decide_eq_true (by omega)) ?_
    refine cw_seq ?_
    refine cw_region ?_
    refine ow_y (y_move rfl) ?_
    refine ow_y (y_loadAgg F.ag175 rfl (by simp [sumV, Value.cells, hk]) (extract_all (by simp [sumV, Value.cells, hk]))) ?_
    refine (ow_mapDel (ek := sumV) (ev := intV) F.mp193 keyS hm hk rfl rfl aFd ?_)
    refine ow_nil ?_
    refine kw_code (fun _ _ h => h) ?_
    refine cw_retG (fun _ _ h => h) rfl rfl aSp
  | some v =>
    refine does_enter Tryz.func212 rfl Tryz.ntmps212 rfl (fun R w0 => ?_)
    simp only [envOf, List.cons_append, List.nil_append, Option.getD_some, Option.isSome_some]
    refine cw_seq ?_
    refine cw_region ?_
    refine (ow_box rfl (fun b5 => ?_))
    refine ow_nil ?_
    refine kw_code (fun _ _ h => h) ?_
    refine cw_seq ?_
    refine cw_seq ?_
    refine cw_region ?_
    refine ow_y (y_move rfl) ?_
    refine ow_y (y_not rfl) ?_
    refine ow_nil ?_
    refine kw_code (fun _ _ h => h) ?_
    refine cw_false rfl (by first | rfl | exact decide_eq_false (by omega)) ?_
    refine cw_skip ?_
    refine kw_code (fun _ _ h => h) ?_
    refine cw_region ?_
    refine ow_y (y_move rfl) ?_
    refine ow_y (y_loadAgg F.ag175 rfl (by simp [sumV, Value.cells, hk]) (extract_all (by simp [sumV, Value.cells, hk]))) ?_
    refine ow_y (y_move rfl) ?_
    refine (ow_mapPut (ek := sumV) (ev := intV) F.mp193 keyS hm hk rfl rfl rfl aFd ?_)
    refine ow_nil ?_
    refine kw_finG rfl rfl aSp
theorem restEnt_spec (mb : Nat) (m : List (Int × Ent)) (k : Int) (w : Option Ent) : Does Tryz.prog 129 #[.map (some mb), .int .u32 k, entA (w.getD ent0), .bool w.isSome] [mapP mb u32V entA m] (Gives (.tuple #[]) [mapP mb u32V entA (restore k w m)]) := by
  cases w with
  | none =>
    refine does_enter Tryz.func129 rfl Tryz.ntmps129 rfl (fun R w0 => ?_)
    simp only [envOf, List.cons_append, List.nil_append, Option.getD_none, Option.isSome_none]
    refine cw_seq ?_
    refine cw_region ?_
    refine (ow_box rfl (fun b6 => ?_))
    refine ow_nil ?_
    refine kw_code (fun _ _ h => h) ?_
    refine cw_seq ?_
    refine cw_seq ?_
    refine cw_region ?_
    refine ow_y (y_move rfl) ?_
    refine ow_y (y_not rfl) ?_
    refine ow_nil ?_
    refine kw_code (fun _ _ h => h) ?_
    refine cw_true rfl (by first | rfl | exact decide_eq_true (by omega)) ?_
    refine cw_seq ?_
    refine cw_region ?_
    refine ow_y (y_move rfl) ?_
    refine ow_y (y_move rfl) ?_
    refine (ow_mapDel (ek := u32V) (ev := entA) F.mp67 keyU (tt fun _ => trivial) trivial rfl rfl aFd ?_)
    refine ow_nil ?_
    refine kw_code (fun _ _ h => h) ?_
    refine cw_retG (fun _ _ h => h) rfl rfl aSp
  | some v =>
    refine does_enter Tryz.func129 rfl Tryz.ntmps129 rfl (fun R w0 => ?_)
    simp only [envOf, List.cons_append, List.nil_append, Option.getD_some, Option.isSome_some]
    refine cw_seq ?_
    refine cw_region ?_
    refine (ow_box rfl (fun b6 => ?_))
    refine ow_nil ?_
    refine kw_code (fun _ _ h => h) ?_
    refine cw_seq ?_
    refine cw_seq ?_
    refine cw_region ?_
    refine ow_y (y_move rfl) ?_
    refine ow_y (y_not rfl) ?_
    refine ow_nil ?_
    refine kw_code (fun _ _ h => h) ?_
    refine cw_false rfl (by first | rfl | exact decide_eq_false (by omega)) ?_
    refine cw_skip ?_
    refine kw_code (fun _ _ h => h) ?_
    refine cw_region ?_
    refine ow_y (y_move rfl) ?_
    refine ow_y (y_move rfl) ?_
    refine ow_y (y_loadAgg F.ag72 rfl (by simp [entA, Value.cells, entV]) (extract_all (by simp [entA, Value.cells, entV]))) ?_
    refine (ow_mapPut (ek := u32V) (ev := entA) F.mp67 keyU (tt fun _ => trivial) trivial rfl rfl rfl aFd ?_)
    refine ow_nil ?_
    refine kw_finG rfl rfl aSp
abbrev cel (b : Nat) (t : TypeId) (v : Value) : Asrt := pts b (.cells #[v] t (0, 0))
abbrev intC (b1 b2 b3 b4 mb : Nat) (k : Int) (w : Option Int) : List Asrt := [cel b1 142 (.map (some mb)), cel b2 3 (.int .i64 k), cel b3 3 (.int .i64 (w.getD 0)), cel b4 4 (.bool w.isSome)]
abbrev sumC (b1 b2 b3 b4 mb : Nat) (k : B) (w : Option Int) : List Asrt := [cel b1 193 (.map (some mb)), pts b2 (.cells (k.map byteV).toArray 175 (0, 0)), cel b3 3 (.int .i64 (w.getD 0)), cel b4 4 (.bool w.isSome)]
abbrev entC (b1 b2 b3 b4 mb : Nat) (k : Int) (w : Option Ent) : List Asrt := [cel b1 67 (.map (some mb)), cel b2 26 (.int .u32 k), pts b3 (.cells (entV (w.getD ent0)).toArray 72 (0, 0)), cel b4 4 (.bool w.isSome)]
theorem putInt1 (b1 b2 b3 b4 mb : Nat) (m : List (Int × Int)) (k : Int) (w : Option Int) : Does Tryz.prog 259 #[ptr b1, ptr b2, ptr b3, ptr b4] (intC b1 b2 b3 b4 mb k w ++ [mapP mb intV intV m]) (Gives (.tuple #[]) (intC b1 b2 b3 b4 mb k w ++ [mapP mb intV intV (restore k w m)])) := by
  refine does_enter Tryz.func259 rfl Tryz.ntmps259 rfl (fun R w0 => ?_)
  simp only [envOf, List.cons_append, List.nil_append]
  refine cw_region ?_
  refine ow_y (y_load F.sc142 rfl (by rfl)) ?_
  refine ow_y (y_load F.sc3 rfl (by rfl)) ?_
  refine ow_y (y_load F.sc3 rfl (by rfl)) ?_
  refine ow_y (y_load F.sc4 rfl (by rfl)) ?_
  refine ow_gives rfl F.hb260 rfl (restInt_spec mb m k w) aSp ?_
  try simp only [List.cons_append, List.nil_append]
  refine ow_nil ?_
  refine kw_finG rfl rfl aSp
theorem dropInt1 (b1 b2 b3 b4 mb : Nat) (m : List (Int × Int)) (k : Int) (w : Option Int) : Does Tryz.prog 273 #[ptr b1, ptr b2, ptr b3, ptr b4] (intC b1 b2 b3 b4 mb k w ++ [mapP mb intV intV m]) (Gives (.tuple #[]) (intC b1 b2 b3 b4 mb k w ++ [mapP mb intV intV (restore k w m)])) := by
  refine does_enter Tryz.func273 rfl Tryz.ntmps273 rfl (fun R w0 => ?_)
  simp only [envOf, List.cons_append, List.nil_append]
  refine cw_region ?_
  refine ow_y (y_load F.sc142 rfl (by rfl)) ?_
  refine ow_y (y_load F.sc3 rfl (by rfl)) ?_
  refine ow_y (y_load F.sc3 rfl (by rfl)) ?_
  refine ow_y (y_load F.sc4 rfl (by rfl)) ?_
  refine ow_gives rfl F.hb260 rfl (restInt_spec mb m k w) aSp ?_
  try simp only [List.cons_append, List.nil_append]
  refine ow_nil ?_
  refine kw_finG rfl rfl aSp
theorem putSum1 (b1 b2 b3 b4 mb : Nat) (m : List (B × Int)) (k : B) (w : Option Int) (hm : ∀ p ∈ m, p.1.length = 32) (hk : k.length = 32) : Does Tryz.prog 211 #[ptr b1, ptr b2, ptr b3, ptr b4] (sumC b1 b2 b3 b4 mb k w ++ [mapP mb sumV intV m]) (Gives (.tuple #[]) (sumC b1 b2 b3 b4 mb k w ++ [mapP mb sumV intV (restore k w m)])) := by
  refine does_enter Tryz.func211 rfl Tryz.ntmps211 rfl (fun R w0 => ?_)
  simp only [envOf, List.cons_append, List.nil_append]
  refine cw_region ?_
  refine ow_y (y_load F.sc193 rfl (by rfl)) ?_
  refine ow_y (y_loadAgg F.ag175 rfl (by simp [hk]) (extract_all (by simp [hk]))) ?_
  refine ow_y (y_load F.sc3 rfl (by rfl)) ?_
  refine ow_y (y_load F.sc4 rfl (by rfl)) ?_
  refine ow_gives rfl F.hb212 rfl (restSum_spec mb m k w hm hk) aSp ?_
  try simp only [List.cons_append, List.nil_append]
  refine ow_nil ?_
  refine kw_finG rfl rfl aSp
theorem dropSum1 (b1 b2 b3 b4 mb : Nat) (m : List (B × Int)) (k : B) (w : Option Int) (hm : ∀ p ∈ m, p.1.length = 32) (hk : k.length = 32) : Does Tryz.prog 249 #[ptr b1, ptr b2, ptr b3, ptr b4] (sumC b1 b2 b3 b4 mb k w ++ [mapP mb sumV intV m]) (Gives (.tuple #[]) (sumC b1 b2 b3 b4 mb k w ++ [mapP mb sumV intV (restore k w m)])) := by
  refine does_enter Tryz.func249 rfl Tryz.ntmps249 rfl (fun R w0 => ?_)
  simp only [envOf, List.cons_append, List.nil_append]
  refine cw_region ?_
  refine ow_y (y_load F.sc193 rfl (by rfl)) ?_
  refine ow_y (y_loadAgg F.ag175 rfl (by simp [hk]) (extract_all (by simp [hk]))) ?_
  refine ow_y (y_load F.sc3 rfl (by rfl)) ?_
  refine ow_y (y_load F.sc4 rfl (by rfl)) ?_
  refine ow_gives rfl F.hb212 rfl (restSum_spec mb m k w hm hk) aSp ?_
  try simp only [List.cons_append, List.nil_append]
  refine ow_nil ?_
  refine kw_finG rfl rfl aSp
theorem putEnt1 (b1 b2 b3 b4 mb : Nat) (m : List (Int × Ent)) (k : Int) (w : Option Ent) : Does Tryz.prog 128 #[ptr b1, ptr b2, ptr b3, ptr b4] (entC b1 b2 b3 b4 mb k w ++ [mapP mb u32V entA m]) (Gives (.tuple #[]) (entC b1 b2 b3 b4 mb k w ++ [mapP mb u32V entA (restore k w m)])) := by
  refine does_enter Tryz.func128 rfl Tryz.ntmps128 rfl (fun R w0 => ?_)
  simp only [envOf, List.cons_append, List.nil_append]
  refine cw_region ?_
  refine ow_y (y_load F.sc67 rfl (by rfl)) ?_
  refine ow_y (y_load F.sc26 rfl (by rfl)) ?_
  refine ow_y (y_loadAgg F.ag72 rfl (by simp [entV]) (extract_all (by simp [entV]))) ?_
  refine ow_y (y_load F.sc4 rfl (by rfl)) ?_
  refine ow_gives rfl F.hb129 rfl (restEnt_spec mb m k w) aSp ?_
  try simp only [List.cons_append, List.nil_append]
  refine ow_nil ?_
  refine kw_finG rfl rfl aSp
theorem dropEnt1 (b1 b2 b3 b4 mb : Nat) (m : List (Int × Ent)) (k : Int) (w : Option Ent) : Does Tryz.prog 158 #[ptr b1, ptr b2, ptr b3, ptr b4] (entC b1 b2 b3 b4 mb k w ++ [mapP mb u32V entA m]) (Gives (.tuple #[]) (entC b1 b2 b3 b4 mb k w ++ [mapP mb u32V entA (restore k w m)])) := by
  refine does_enter Tryz.func158 rfl Tryz.ntmps158 rfl (fun R w0 => ?_)
  simp only [envOf, List.cons_append, List.nil_append]
  refine cw_region ?_
  refine ow_y (y_load F.sc67 rfl (by rfl)) ?_
  refine ow_y (y_load F.sc26 rfl (by rfl)) ?_
  refine ow_y (y_loadAgg F.ag72 rfl (by simp [entV]) (extract_all (by simp [entV]))) ?_
  refine ow_y (y_load F.sc4 rfl (by rfl)) ?_
  refine ow_gives rfl F.hb129 rfl (restEnt_spec mb m k w) aSp ?_
  try simp only [List.cons_append, List.nil_append]
  refine ow_nil ?_
  refine kw_finG rfl rfl aSp
theorem setInt1 (a : Ad) (by_ b1 b2 : Nat) (gv : Value) (w keep : Int) : Does Tryz.prog 169 #[ptr b1, ptr b2] [cel b1 3 (.int .i64 w), cel b2 202 (.pointer (some ⟨a.heap, 6, none⟩)), heapC a by_ gv keep] (Gives (.tuple #[]) [heapC a by_ gv w]) := by
  refine does_enter Tryz.func169 rfl Tryz.ntmps169 rfl (fun R w0 => ?_)
  simp only [envOf, List.cons_append, List.nil_append, hcells]
  refine cw_region ?_
  refine ow_y (y_load F.sc202 rfl (by rfl)) ?_
  refine ow_y (y_load F.sc3 rfl (by rfl)) ?_
  refine ow_y (y_nil rfl) ?_
  refine (ow_store F.sz3 rfl rfl (by first | rfl | assumption) (by rfl) (by (try simp only [List.set_cons_zero, List.set_cons_succ, Nat.reduceAdd, Nat.reduceMul, Int.reduceToNat, Nat.zero_add, Nat.add_zero]); rfl) ?_)
  refine ow_nil ?_
  refine kw_finG rfl rfl aSp
theorem setU321 (a : Ad) (b1 b2 : Nat) (w next ep : Int) : Does Tryz.prog 168 #[ptr b1, ptr b2] [cel b1 26 (.int .u32 w), cel b2 200 (.pointer (some ⟨a.core, 3, none⟩)), coreC a next ep] (Gives (.tuple #[]) [coreC a w ep]) := by
  refine does_enter Tryz.func168 rfl Tryz.ntmps168 rfl (fun R w0 => ?_)
  simp only [envOf, List.cons_append, List.nil_append, ccells]
  refine cw_region ?_
  refine ow_y (y_load F.sc200 rfl (by rfl)) ?_
  refine ow_y (y_load F.sc26 rfl (by rfl)) ?_
  refine ow_y (y_nil rfl) ?_
  refine (ow_store F.sz26 rfl rfl (by first | rfl | assumption) (by rfl) (by (try simp only [List.set_cons_zero, List.set_cons_succ, Nat.reduceAdd, Nat.reduceMul, Int.reduceToNat, Nat.zero_add, Nat.add_zero]); rfl) ?_)
  refine ow_nil ?_
  refine kw_finG rfl rfl aSp
theorem setRow1 (a : Ad) (by_ b1 b2 : Nat) (gv x : Value) (keep : Int) (hx : x.oneCell' = true) : Does Tryz.prog 274 #[ptr b1, ptr b2] [cel b1 109 x, cel b2 310 (.pointer (some ⟨a.heap, 5, none⟩)), heapC a by_ gv keep] (Gives (.tuple #[]) [heapC a by_ x keep]) := by
  refine does_enter Tryz.func274 rfl Tryz.ntmps274 rfl (fun R w0 => ?_)
  simp only [envOf, List.cons_append, List.nil_append, hcells]
  refine cw_region ?_
  refine ow_y (y_load F.sc310 rfl (by rfl)) ?_
  refine ow_y (y_load F.sc109 rfl (by rfl)) ?_
  refine ow_y (y_nil rfl) ?_
  refine (ow_store F.sz109 rfl rfl hx (by rfl) (by rfl) ?_)
  refine ow_nil ?_
  refine kw_finG rfl rfl aSp
theorem give1 (a : Ad) (by_ b1 b2 : Nat) (gv : Value) (keep k : Int) (fr : Nat) (g : List Nat) (hk : inR k = true) (hfr : fr ≤ 5000) (hl : g.length ≤ 5000) : Does Tryz.prog 261 #[ptr b1, ptr b2] ([cel b1 62 (ptr a.heap), cel b2 3 (.int .i64 k), heapC a by_ gv keep] ++ gm a.gr a.grl fr g) (Gives (.tuple #[]) ([heapC a by_ gv keep] ++ gm a.gr a.grl fr (mvL fr g k 1 0))) := by
  refine does_enter Tryz.func261 rfl Tryz.ntmps261 rfl (fun R w0 => ?_)
  simp only [envOf, List.cons_append, List.nil_append, hcells]
  refine cw_tail 5 F.fol (by kernel_rfl) ?_
  simp only [List.take_succ_cons, List.take_zero, List.drop_succ_cons, List.drop_zero]
  refine os_y (y_load F.sc62 rfl (by rfl)) ?_
  refine os_y (y_nil rfl) ?_
  refine os_y (y_fld F.fld144_2 rfl) ?_
  refine os_y (y_load F.sc140 rfl (by rfl)) ?_
  refine os_y (y_load F.sc3 rfl (by rfl)) ?_
  refine os_nil ?_
  refine ow_gives rfl F.hb133 rfl (ggive_spec a.gr a.grl fr g k (rangeR hk) hfr hl) aSp ?_
  try simp only [List.cons_append, List.nil_append]
  refine ow_nil ?_
  refine kw_finG rfl rfl aSp
theorem back1 (a : Ad) (by_ b1 b2 : Nat) (gv : Value) (keep k : Int) (fr : Nat) (g : List Nat) (hk : inR k = true) (hfr : fr ≤ 5000) (hl : g.length ≤ 5000) : Does Tryz.prog 245 #[ptr b1, ptr b2] ([cel b1 62 (ptr a.heap), cel b2 3 (.int .i64 k), heapC a by_ gv keep] ++ gm a.gr a.grl fr g) (Gives (.tuple #[]) ([heapC a by_ gv keep] ++ gm a.gr a.grl fr (mvL fr g k 2 1))) := by
  refine does_enter Tryz.func245 rfl Tryz.ntmps245 rfl (fun R w0 => ?_)
  simp only [envOf, List.cons_append, List.nil_append, hcells]
  refine cw_tail 5 F.fol (by kernel_rfl) ?_
  simp only [List.take_succ_cons, List.take_zero, List.drop_succ_cons, List.drop_zero]
  refine os_y (y_load F.sc62 rfl (by rfl)) ?_
  refine os_y (y_nil rfl) ?_
  refine os_y (y_fld F.fld144_2 rfl) ?_
  refine os_y (y_load F.sc140 rfl (by rfl)) ?_
  refine os_y (y_load F.sc3 rfl (by rfl)) ?_
  refine os_nil ?_
  refine ow_gives rfl F.hb132 rfl (gback_spec a.gr a.grl fr g k (rangeR hk) hfr hl) aSp ?_
  try simp only [List.cons_append, List.nil_append]
  refine ow_nil ?_
  refine kw_finG rfl rfl aSp
end Go.Proofs.YthlclfdnhnnebaaGreatDoor
end
section
set_option maxRecDepth 4000
set_option maxHeartbeats 4000000
namespace Go.Proofs.YthlclfdnhnnebaaGreatDoor
open Go.Sl Go.Sb
def StOK (s : St) : Prop := s.fr ≤ 5000 ∧ s.g.length ≤ 5000 ∧ (∀ x ∈ s.g, x < 3) ∧ ∀ p ∈ s.index, p.1.length = 32
abbrev cellsP (c : List (Nat × Obj)) : List Asrt := c.map fun p => pts p.1 p.2
abbrev TT (a : Ad) (by_ : Nat) (gv : Value) (gc : List (Nat × Obj)) (s : St) : List Asrt := [heapC a by_ gv s.keep, star (cellsP gc), mapP by_ intV intV s.young, mapP a.refs intV intV s.refs, mapP a.ix sumV intV s.index, mapP a.vols u32V entA s.vols, coreC a s.next s.epoch,
  pts a.gr (.cells (gcells s.fr a.grl s.g).toArray 198 (0, 0)), pts a.grl (.cells (s.g.map gst).toArray 3 (0, 0))]
theorem mvL_len (fr : Nat) (l : List Nat) (x : Int) (k t : Nat) : (mvL fr l x k t).length = l.length := by unfold mvL; split <;> simp
theorem mvL_mem {fr : Nat} {l : List Nat} {x : Int} {k t : Nat} (ht : t < 3) (hl : ∀ y ∈ l, y < 3) : ∀ y ∈ mvL fr l x k t, y < 3 := by
  intro y hy
  unfold mvL at hy
  split at hy
  · rcases List.mem_or_eq_of_mem_set hy with h | rfl
    · exact hl y h
    · exact ht
  · exact hl y hy
theorem mem_mput {K V : Type} [DecidableEq K] {k : K} {v : V} : ∀ {m : List (K × V)} {p : K × V}, p ∈ mput k v m → p = (k, v) ∨ p ∈ m
  | [], p, h => by simp [mput] at h; exact .inl h
  | (j, u) :: m, p, h => by
    unfold mput at h
    split at h
    · rcases List.mem_cons.1 h with h | h
      · exact .inl h
      · exact .inr (List.mem_cons_of_mem _ h)
    · rcases List.mem_cons.1 h with h | h
      · exact .inr (by simp [h])
      · rcases mem_mput h with h | h
        · exact .inl h
        · exact .inr (List.mem_cons_of_mem _ h)
theorem mem_mdel {K V : Type} [DecidableEq K] {k : K} : ∀ {m : List (K × V)} {p : K × V}, p ∈ mdel k m → p ∈ m
  | [], p, h => by simp [mdel] at h
  | (j, u) :: m, p, h => by
    unfold mdel at h
    split at h
    · exact List.mem_cons_of_mem _ h
    · rcases List.mem_cons.1 h with h | h
      · simp [h]
      · exact List.mem_cons_of_mem _ (mem_mdel h)
theorem undo1_ok {a : Ad} {by_ : Nat} {st : Step} {v : Value} {c : List (Nat × Obj)} (h : stepIs a by_ st v c) {s : St} (hs : StOK s) : StOK (undo1 st s) := by
  obtain ⟨h1, h2, h3, h4⟩ := hs
  cases st with
  | give k => exact ⟨h1, by simpa [undo1, mvL_len] using h2, mvL_mem (by omega) h3, h4⟩
  | back k => exact ⟨h1, by simpa [undo1, mvL_len] using h2, mvL_mem (by omega) h3, h4⟩
  | index k w =>
    refine ⟨h1, h2, h3, fun p hp => ?_⟩
    simp only [undo1, Sb.restore] at hp
    split at hp
    · rcases mem_mput hp with rfl | hp
      · exact h.1
      · exact h4 p hp
    · exact h4 p (mem_mdel hp)
  | _ => exact ⟨h1, h2, h3, h4⟩
theorem step_run (a : Ad) (by_ : Nat) (gv : Value) (gc : List (Nat × Obj)) (s : St) (st : Step) (v : Value) (c : List (Nat × Obj)) (hs : stepIs a by_ st v c) (hg : goneIs gv s.gone gc) (hok : StOK s) :
    ∃ f bb, v = clo f bb ∧ hasBody Tryz.prog f = true ∧ Does Tryz.prog f (bb.map ptr).toArray (star (cellsP c) :: TT a by_ gv gc s)
      (GivesE (fun x : Value × List (Nat × Obj) => goneIs x.1 (undo1 st s).gone x.2 ∧ StOK (undo1 st s)) (fun _ => .tuple #[]) (fun x => TT a by_ x.1 x.2 (undo1 st s))) := by
  have hok' := undo1_ok hs hok
  cases st with
  | give k =>
    obtain ⟨hk, b1, b2, rfl, rfl⟩ := hs
    refine ⟨_, [b1, b2], rfl, F.hb261, does_giveE (gv, gc) ⟨hg, hok'⟩ rfl rfl (does_star ?_)⟩
    exact does_conv (give1 a by_ b1 b2 gv s.keep k s.fr s.g hk hok.1 hok.2.1) aSp aSp
  | back k =>
    obtain ⟨hk, b1, b2, rfl, rfl⟩ := hs
    refine ⟨_, [b1, b2], rfl, F.hb245, does_giveE (gv, gc) ⟨hg, hok'⟩ rfl rfl (does_star ?_)⟩
    exact does_conv (back1 a by_ b1 b2 gv s.keep k s.fr s.g hk hok.1 hok.2.1) aSp aSp
  | keep w =>
    obtain ⟨b1, b2, rfl, rfl⟩ := hs
    refine ⟨_, [b1, b2], rfl, F.hb169, does_giveE (gv, gc) ⟨hg, hok'⟩ rfl rfl (does_star ?_)⟩
    exact does_conv (setInt1 a by_ b1 b2 gv w s.keep) aSp aSp
  | next w =>
    obtain ⟨b1, b2, rfl, rfl⟩ := hs
    refine ⟨_, [b1, b2], rfl, F.hb168, does_giveE (gv, gc) ⟨hg, hok'⟩ rfl rfl (does_star ?_)⟩
    exact does_conv (setU321 a b1 b2 w s.next s.epoch) aSp aSp
  | gone w =>
    obtain ⟨b1, b2, x, b3, rfl, rfl, hx⟩ := hs
    have hx1 : x.oneCell' = true := by rcases hx with ⟨_, ⟨_, rfl, _⟩ | ⟨_, _, _, rfl, _⟩⟩ <;> rfl
    refine ⟨_, [b1, b2], rfl, F.hb274, does_giveE (x, b3) ⟨hx, hok'⟩ rfl rfl (does_pre (Pre := cel b1 109 x :: cel b2 310 (.pointer (some ⟨a.heap, 5, none⟩)) :: star (cellsP b3) :: TT a by_ gv gc s) (fun w F h => ?_) ?_)⟩
    · have h0 : Sat w (star (cellsP (cellB b1 109 x :: cellB b2 310 (.pointer (some ⟨a.heap, 5, none⟩)) :: b3)) :: (TT a by_ gv gc s ++ F)) := h
      have h1 := sat_star.1 h0
      have h1' : Sat w ([cel b1 109 x, cel b2 310 (.pointer (some ⟨a.heap, 5, none⟩))] ++ (cellsP b3 ++ (TT a by_ gv gc s ++ F))) := h1
      have h2 := h1'.perm List.perm_append_comm
      rw [List.append_assoc] at h2
      have h3 := (sat_star.2 h2).perm (List.perm_append_comm (l₁ := star (cellsP b3) :: (TT a by_ gv gc s ++ F)) (l₂ := [cel b1 109 x, cel b2 310 (.pointer (some ⟨a.heap, 5, none⟩))]))
      exact h3
    · exact does_conv (setRow1 a by_ b1 b2 gv x s.keep hx1) aSp aSp
  | refs k w =>
    obtain ⟨b1, b2, b3, b4, hv, rfl⟩ := hs
    rcases hv with rfl | rfl
    · refine ⟨_, [b1, b2, b3, b4], rfl, F.hb259, does_giveE (gv, gc) ⟨hg, hok'⟩ rfl rfl (does_star ?_)⟩
      exact does_conv (putInt1 b1 b2 b3 b4 a.refs s.refs k w) aSp aSp
    · refine ⟨_, [b1, b2, b3, b4], rfl, F.hb273, does_giveE (gv, gc) ⟨hg, hok'⟩ rfl rfl (does_star ?_)⟩
      exact does_conv (dropInt1 b1 b2 b3 b4 a.refs s.refs k w) aSp aSp
  | young k w =>
    obtain ⟨b1, b2, b3, b4, hv, rfl⟩ := hs
    rcases hv with rfl | rfl
    · refine ⟨_, [b1, b2, b3, b4], rfl, F.hb259, does_giveE (gv, gc) ⟨hg, hok'⟩ rfl rfl (does_star ?_)⟩
      exact does_conv (putInt1 b1 b2 b3 b4 by_ s.young k w) aSp aSp
    · refine ⟨_, [b1, b2, b3, b4], rfl, F.hb273, does_giveE (gv, gc) ⟨hg, hok'⟩ rfl rfl (does_star ?_)⟩
      exact does_conv (dropInt1 b1 b2 b3 b4 by_ s.young k w) aSp aSp
  | index k w =>
    obtain ⟨hk, b1, b2, b3, b4, hv, rfl⟩ := hs
    rcases hv with rfl | rfl
    · refine ⟨_, [b1, b2, b3, b4], rfl, F.hb211, does_giveE (gv, gc) ⟨hg, hok'⟩ rfl rfl (does_star ?_)⟩
      exact does_conv (putSum1 b1 b2 b3 b4 a.ix s.index k w hok.2.2.2 hk) aSp aSp
    · refine ⟨_, [b1, b2, b3, b4], rfl, F.hb249, does_giveE (gv, gc) ⟨hg, hok'⟩ rfl rfl (does_star ?_)⟩
      exact does_conv (dropSum1 b1 b2 b3 b4 a.ix s.index k w hok.2.2.2 hk) aSp aSp
  | vols k w =>
    obtain ⟨b1, b2, b3, b4, hv, rfl⟩ := hs
    rcases hv with rfl | rfl
    · refine ⟨_, [b1, b2, b3, b4], rfl, F.hb128, does_giveE (gv, gc) ⟨hg, hok'⟩ rfl rfl (does_star ?_)⟩
      exact does_conv (putEnt1 b1 b2 b3 b4 a.vols s.vols k w) aSp aSp
    · refine ⟨_, [b1, b2, b3, b4], rfl, F.hb158, does_giveE (gv, gc) ⟨hg, hok'⟩ rfl rfl (does_star ?_)⟩
      exact does_conv (dropEnt1 b1 b2 b3 b4 a.vols s.vols k w) aSp aSp
end Go.Proofs.YthlclfdnhnnebaaGreatDoor
end
section
set_option maxRecDepth 4000
set_option maxHeartbeats 4000000
namespace Go.Proofs.YthlclfdnhnnebaaGreatDoor
open Go.Sl Go.Sb
theorem logOK_last {a : Ad} {by_ : Nat} {o : Own} {log : List Step} {vals : List Value} {n : Nat} (h : logOK a by_ o log vals) (hn : log.length = n + 1) :
    ∃ (vals' : List Value) (e : Step × Value × List (Nat × Obj)) (o' : Own), vals = vals' ++ [e.2.1] ∧ vals'.length = n ∧ o.Perm (e :: o') ∧ stepIs a by_ e.1 e.2.1 e.2.2 ∧ log.drop n = [e.1] ∧ logOK a by_ o' (log.take n) vals' := by
  obtain ⟨h1, live, rest, hp, rfl, rfl, hl⟩ := h
  have hlen : live.length = n + 1 := by simpa using hn
  obtain ⟨l', e, rfl⟩ : ∃ l' e, live = l' ++ [e] := ⟨live.dropLast, live.getLast (by intro h; simp [h] at hlen), (List.dropLast_concat_getLast _).symm⟩
  have hl' : l'.length = n := by simpa using hlen
  refine ⟨l'.map (·.2.1), e, l' ++ rest, by simp, by simpa using hl', ?_, hl e (by simp), ?_, ?_⟩
  · refine hp.trans ?_
    rw [List.append_assoc]
    exact List.perm_middle
  · simp [← hl']
  · refine ⟨by simp at h1 ⊢; omega, l', rest, List.Perm.refl _, ?_, rfl, fun e' he => hl e' (by simp [he])⟩
    rw [List.map_append, ← hl', List.take_left' (by simp)]
theorem own_out {o o' : Own} {e : Step × Value × List (Nat × Obj)} {L M : List Asrt} (hp : o.Perm (e :: o')) (hL : Fnd L (star (Own.cells o)) M) (w : World) (h : Sat w L) : Sat w (star (cellsP e.2.2) :: star (Own.cells o') :: M) := by
  have h1 := sat_star.1 (hL.sat h)
  have h2 : (Own.cells o).Perm (cellsP e.2.2 ++ Own.cells o') := by
    have := (hp.flatMap_right (fun x => x.2.2)).map (fun p : Nat × Obj => pts p.1 p.2)
    simpa [Own.cells, cellsP] using this
  have h3 : Sat w (cellsP e.2.2 ++ (Own.cells o' ++ M)) := h1.perm ((h2.append_right M).trans (by rw [List.append_assoc]))
  have h4 : Sat w (Own.cells o' ++ (star (cellsP e.2.2) :: M)) := (sat_star.2 h3).perm List.perm_middle.symm
  exact (sat_star.2 h4).perm (List.Perm.swap _ _ _)
theorem undoL_log (s : St) : ∀ l, (undoL s l).log = s.log ∧ (undoL s l).depth = s.depth
  | [] => ⟨rfl, rfl⟩
  | st :: l => by
    have := undoL_log s l
    cases st <;> exact this
theorem drop_pred {l : List Step} {k n : Nat} {e : Step} (hk : k = n + 1) (hl : (l.take k).drop n = [e]) : l.drop n = e :: l.drop k := by
  subst hk
  have h1 : (l.take (n + 1)) ++ l.drop (n + 1) = l := List.take_append_drop _ _
  have h2 : n ≤ (l.take (n + 1)).length := by
    rcases Nat.lt_or_ge (l.take (n + 1)).length n with h | h
    · rw [List.drop_eq_nil_of_le (by omega)] at hl; cases hl
    · exact h
  conv => lhs; rw [← h1]
  rw [List.drop_append_of_le_length h2, hl]; rfl
theorem to_spec (a : Ad) (by_ : Nat) (gv0 : Value) (gc0 : List (Nat × Obj)) (o0 : Own) (s : St) (mark : Nat) (hg0 : goneIs gv0 s.gone gc0) (hok0 : StOK s) :
    Does Tryz.prog 131 #[ptr a.log, .int .i64 mark] (logO a by_ o0 s.log s.depth :: TT a by_ gv0 gc0 s)
      (GivesE (fun x : Value × List (Nat × Obj) × Own => goneIs x.1 (undoTo mark s).gone x.2.1 ∧ StOK (undoTo mark s)) (fun _ => .tuple #[]) (fun x => logO a by_ x.2.2 (undoTo mark s).log (undoTo mark s).depth :: TT a by_ x.1 x.2.1 (undoTo mark s))) := by
  refine does_enter Tryz.func131 rfl Tryz.ntmps131 rfl (fun R w0 => ?_)
  simp only [envOf, List.cons_append, List.nil_append]
  refine cw_block ?_
  have hx0 : s.log.length ≤ s.log.length ∧ (mark ≤ s.log.length ∨ s.log.length = s.log.length) ∧ goneIs gv0 (undoL s (s.log.drop s.log.length)).gone gc0 ∧ StOK (undoL s (s.log.drop s.log.length)) := by rw [List.drop_length]; exact ⟨Nat.le_refl _, .inr rfl, hg0, hok0⟩
  refine cw_eqL (L' := logO a by_ o0 (s.log.take s.log.length) s.depth :: (TT a by_ gv0 gc0 (undoL s (s.log.drop s.log.length)) ++ [R])) (by rw [List.take_length, List.drop_length]; rfl) ?_
  simp only [TT, List.cons_append, List.nil_append]
  refine cw_loop (X := {x : Nat × Value × List (Nat × Obj) × Own // x.1 ≤ s.log.length ∧ (mark ≤ x.1 ∨ x.1 = s.log.length) ∧ goneIs x.2.1 (undoL s (s.log.drop x.1)).gone x.2.2.1 ∧ StOK (undoL s (s.log.drop x.1))}) (fun _ => [(0, ptr a.log), (1, .int .i64 mark)]) (fun x => logO a by_ x.1.2.2.2 (s.log.take x.1.1) s.depth :: (TT a by_ x.1.2.1 x.1.2.2.1 (undoL s (s.log.drop x.1.1)) ++ [R])) (fun x => x.1.1) ⟨(s.log.length, gv0, gc0, o0), hx0⟩ (by repeat (first | exact Sub.nil | refine Sub.cons rfl ?_)) aSp ?_
  rintro ⟨⟨k, gv, gc, o⟩, hk, hmk, hg, hok⟩ m0 hm0
  try simp only at hm0
  try dsimp only
  dsimp only at hk hmk hg hok
  simp only [TT, List.cons_append, List.nil_append]
  refine cw_log aFd fun v vals hlk hdp hv1 => ?_
  have hlen := hlk.len
  rw [List.length_take, Nat.min_eq_left hk] at hlen
  refine cw_seq ?_
  refine cw_seq ?_
  refine cw_region ?_
  refine ow_y (y_move rfl) ?_
  refine ow_y (y_nil rfl) ?_
  refine ow_y (y_fld F.fld139_0 rfl) ?_
  refine ow_y (y_load F.sc137 rfl (by rfl)) ?_
  refine ow_y (y_len_row F.sl137 rfl aFd) ?_
  refine ow_y (y_move rfl) ?_
  refine ow_y (y_gtr rfl rfl) ?_
  refine ow_nil ?_
  refine kw_code (fun _ _ h => h) ?_
  refine cw_if rfl (fun hb12 => ?_) (fun hb12 => ?_)
  · skip
    have hkm : mark < k := by have := of_decide_eq_true hb12; omega
    obtain ⟨n, rfl⟩ : ∃ n, k = n + 1 := ⟨k - 1, by omega⟩
    obtain ⟨vals', e, o', rfl, hvl, hperm, hst, hdr, hlk'⟩ := logOK_last (n := n) hlk (by rw [List.length_take]; omega)
    obtain ⟨f, bb, hclo, hbody, hdoes⟩ := step_run a by_ gv gc (undoL s (s.log.drop (n + 1))) e.1 e.2.1 e.2.2 hst hg hok
    have hdrop := drop_pred (n := n) (l := s.log) rfl hdr
    have htk : (s.log.take (n + 1)).take n = s.log.take n := by rw [List.take_take, Nat.min_eq_left (by omega)]
    rw [htk] at hlk'
    refine cw_rowv aFd (by omega) fun bl cap hvv hcap => ?_
    subst hvv
    have hnl : (vals' ++ [e.2.1]).length = n + 1 := by simp [hvl]
    have hb9 : n + 1 ≤ 1000000000 := by have := hlk.1; rw [List.length_take] at this; omega
    have hix : 0 + ((((vals' ++ [e.2.1]).length : Nat) : Int) - 1).toNat * 1 = vals'.length := by omega
    refine cw_skip ?_
    refine kw_code (fun _ _ h => h) ?_
    refine cw_block ?_
    refine cw_seq ?_
    refine cw_region ?_
    refine ow_y (y_move rfl) ?_
    refine ow_y (y_nil rfl) ?_
    refine ow_y (y_fld F.fld139_0 rfl) ?_
    refine ow_y (y_load F.sc137 rfl (by rfl)) ?_
    refine ow_y (y_len_row F.sl137 rfl aFd) ?_
    refine ow_y (y_subI rfl rfl (by omega)) ?_
    refine ow_y (y_assign rfl) ?_
    refine ow_nil ?_
    refine kw_code (fun _ _ h => h) ?_
    refine cw_seq ?_
    refine cw_region ?_
    refine ow_y (y_move rfl) ?_
    refine ow_y (y_nil rfl) ?_
    refine ow_y (y_fld F.fld139_0 rfl) ?_
    refine ow_y (y_load F.sc137 rfl (by rfl)) ?_
    refine ow_y (y_move rfl) ?_
    refine ow_y (y_ixs F.sl137 rfl rfl (by omega)) ?_
    refine ow_y (y_loadRow F.sc1 rfl aFd (v := .func (.func f) #[] (bb.map ptr).toArray) (by rw [nth_eq, hix, List.getElem?_append_right (Nat.le_refl _)]; simp [hclo])) ?_
    refine ow_y (y_assign rfl) ?_
    refine ow_nil ?_
    refine kw_code (fun _ _ h => h) ?_
    refine cw_seq ?_
    refine cw_region ?_
    refine ow_y (y_move rfl) ?_
    refine ow_y (y_move rfl) ?_
    refine ow_y (y_nil rfl) ?_
    refine ow_y (y_fld F.fld139_0 rfl) ?_
    refine ow_y (y_load F.sc137 rfl (by rfl)) ?_
    refine ow_y (y_move rfl) ?_
    refine ow_y (y_sliceH F.sl137 rfl rfl (by omega)) ?_
    refine ow_y (y_nil rfl) ?_
    refine ow_y (y_fld F.fld139_0 rfl) ?_
    refine (ow_store F.sz137 rfl rfl (by first | rfl | assumption) (by rfl) (by (try simp only [List.set_cons_zero, List.set_cons_succ, Nat.reduceAdd, Nat.reduceMul, Int.reduceToNat, Nat.zero_add, Nat.add_zero]); rfl) ?_)
    refine ow_nil ?_
    refine kw_code (fun _ _ h => h) ?_
    refine cw_shrink (k := n) aFd (by omega) ?_
    rw [show (vals' ++ [e.2.1]).take (n * 1) = vals' by rw [Nat.mul_one, ← hvl, List.take_left]]
    refine cw_said (own_out hperm aFd) ?_
    refine cw_region ?_
    refine ow_y (y_move rfl) ?_
    refine ow_givesE rfl hbody rfl (hdoes) aSp ?_
    rintro ⟨gv', gc'⟩ hx
    try simp only [List.cons_append, List.nil_append]
    refine ow_nil ?_
    have htn : ((((vals' ++ [e.2.1]).length : Nat) : Int) - 1).toNat = n := by omega
    have hun : undo1 e.1 (undoL s (s.log.drop (n + 1))) = undoL s (s.log.drop n) := by rw [hdrop]; rfl
    rw [htn, hun]
    refine kw_said (L' := _) (sat_log (o := o') (vals := vals') hlk' hdp (by rw [hvl]; exact aSp)) ?_
    refine kw_rnd (fun _ _ h => h) (⟨(n, gv', gc', o'), by omega, .inl (by omega), by rw [hdrop]; exact hx.1, by rw [hdrop]; exact hx.2⟩) (by first | omega | (simp only; omega)) (by repeat (first | exact Sub.nil | refine Sub.cons rfl ?_)) aSp
  · skip
    have hkm : ¬ mark < k := by have := of_decide_eq_false hb12; omega
    have hs1 : (undoTo mark s).log = s.log.take k := by
      show s.log.take mark = _
      rcases hmk with h | h
      · rw [show mark = k by omega]
      · rw [h, List.take_of_length_le (by omega), List.take_length]
    have hd1 : s.log.drop mark = s.log.drop k := by
      rcases hmk with h | h
      · rw [show mark = k by omega]
      · rw [h, List.drop_eq_nil_of_le (by omega), List.drop_length]
    have hs2 : undoTo mark s = { undoL s (s.log.drop k) with log := s.log.take k } := by
      show { undoL s (s.log.drop mark) with log := s.log.take mark } = _
      rw [hd1, show s.log.take mark = s.log.take k from hs1]
    refine cw_exit ?_
    refine kw_said (L' := _) (sat_log hlk hdp aSp) (kw_finE (gv, gc, o) (by rw [hs2]; exact ⟨hg, hok⟩) rfl rfl (by rw [hs2, show ({ undoL s (s.log.drop k) with log := s.log.take k } : St).depth = s.depth from (undoL_log s _).2]; exact aSp))
end Go.Proofs.YthlclfdnhnnebaaGreatDoor
end
section
set_option maxRecDepth 4000
set_option maxHeartbeats 4000000
namespace Go.Proofs.YthlclfdnhnnebaaGreatDoor
open Go.Sl Go.Sb
abbrev fT : TypeId := 152
def secV (x : B × B) : List Value := [.string (bs x.1), .string (bs x.2)]
def DkOK (d : Dk) : Prop := (∀ x ∈ d.l, x.1.length = 64 ∧ x.2.length = 64) ∧ d.l.length ≤ 4096 ∧ d.left < 4611686018427387904
abbrev dkC (a : Ad) (d : Dk) : Asrt := pts a.disk (.cells #[a.vd, .bool d.armed, .int .i64 d.left, .bool d.dead] 147 (0, 0))
abbrev dkR (a : Ad) (d : Dk) : Asrt := rowA 149 2 a.vd d.l.length (d.l.flatMap secV)
abbrev stC (a : Ad) (bits : Nat) : Asrt := pts a.st (.cells #[ptr a.heap, .int .i64 bits, .map (some a.ix)] 195 (0, 0))
abbrev mpC (a : Ad) : Asrt := pts a.maps (.cells #[ptr a.heap, ptr a.st] 155 (0, 0))
abbrev HX := Nat × Value × List (Nat × Obj) × Own
def hlV (a : Ad) (s : St) (x : HX) : List Asrt := logO a x.1 x.2.2.2 s.log s.depth :: fact (goneIs x.2.1 s.gone x.2.2.1 ∧ StOK s) :: TT a x.1 x.2.1 x.2.2.1 s
def HL (a : Ad) (s : St) : Asrt := ex fun x : HX => star (hlV a s x)
abbrev RS (W : World) (a : Ad) (s : St) : List Asrt := [whole W, dkC a s.d, dkR a s.d, fact (DkOK s.d), stC a s.bits, mpC a, HL a s]
def gd {S α : Type} : Out α × S → Out Int × S
  | (.ok _, s) => (.ok 0, s)
  | (.err e, s) => (.ok e, s)
  | (.big, s) => (.big, s)
section
variable {c : Cx} {Q : Exit → Act → World → Prop} {env : List (Nat × Value)} {L M : List Asrt} {y : Code} {a : Ad} {s : St}
theorem cw_hl (hL : Fnd L (HL a s) M) (h : ∀ by_ gv gc o, goneIs gv s.gone gc → StOK s → CW c y Q env (logO a by_ o s.log s.depth :: (TT a by_ gv gc s ++ M))) : CW c y Q env L := by
  refine cw_exs hL fun x => ?_
  obtain ⟨by_, gv, gc, o⟩ := x
  simp only [hlV, List.cons_append]
  refine cw_fact (Fnd.there Fnd.here) fun hf => ?_
  refine cw_said (L' := logO a by_ o s.log s.depth :: (TT a by_ gv gc s ++ M)) (fun w hw => ?_) (h by_ gv gc o hf.1 hf.2)
  exact (sat_fact.1 (hw.perm (List.Perm.swap _ _ _))).2
theorem sat_hl {by_ : Nat} {gv : Value} {gc : List (Nat × Obj)} {o : Own} (hg : goneIs gv s.gone gc) (hok : StOK s) (hL : Split L (logO a by_ o s.log s.depth :: TT a by_ gv gc s) M) (w : World) (h : Sat w L) : Sat w (HL a s :: M) := by
  refine sat_ex.2 ⟨(by_, gv, gc, o), sat_star.2 ?_⟩
  have h1 := sat_mkfact (p := goneIs gv s.gone gc ∧ StOK s) ⟨hg, hok⟩ w (h.perm hL)
  exact h1.perm (List.Perm.swap _ _ _)
end
theorem leave_spec (a : Ad) (s : St) (hd : 0 < s.depth) : DoesD Tryz.prog 130 #[ptr a.log] .returning [HL a s] (fun e u' L' => ∃ _x : Unit, True ∧ (∃ v, e = .returned v) ∧ settle u' = .returning ∧ L' = [HL a (leave s)]) := by
  refine doesD_plain (args := [ptr a.log]) Tryz.func130 rfl Tryz.ntmps130 rfl (fun R w0 => ?_)
  simp only [envOf, List.cons_append, List.nil_append]
  refine cw_hl aFd fun by_ gv gc o hg hok => ?_
  refine cw_log aFd fun v vals hlk hdp hv1 => ?_
  refine cw_seq ?_
  refine cw_region ?_
  refine ow_y (y_move rfl) ?_
  refine ow_y (y_nil rfl) ?_
  refine ow_y (y_fld F.fld139_1 rfl) ?_
  refine ow_y (y_load F.sc3 rfl (by rfl)) ?_
  refine ow_y (y_subI rfl rfl (by omega)) ?_
  refine ow_y (y_nil rfl) ?_
  refine ow_y (y_fld F.fld139_1 rfl) ?_
  refine (ow_store F.sz3 rfl rfl (by first | rfl | assumption) (by rfl) (by (try simp only [List.set_cons_zero, List.set_cons_succ, Nat.reduceAdd, Nat.reduceMul, Int.reduceToNat, Nat.zero_add, Nat.add_zero]); rfl) ?_)
  refine ow_nil ?_
  refine kw_code (fun _ _ h => h) ?_
  refine cw_seq ?_
  refine cw_region ?_
  refine ow_y (y_move rfl) ?_
  refine ow_y (y_nil rfl) ?_
  refine ow_y (y_fld F.fld139_1 rfl) ?_
  refine ow_y (y_load F.sc3 rfl (by rfl)) ?_
  refine ow_y (y_eql rfl rfl) ?_
  refine ow_nil ?_
  refine kw_code (fun _ _ h => h) ?_
  refine cw_if rfl (fun hb13 => ?_) (fun hb13 => ?_)
  · skip
    have h1 : s.depth = 1 := by have := of_decide_eq_true hb13; omega
    have h0 : ((s.depth : Int) - 1) = ((0 : Nat) : Int) := by omega
    refine cw_region ?_
    refine ow_y (y_move rfl) ?_
    refine ow_y (y_nil rfl) ?_
    refine ow_y (y_fld F.fld139_0 rfl) ?_
    refine (ow_store F.sz137 rfl rfl (by first | rfl | assumption) (by rfl) (by (try simp only [List.set_cons_zero, List.set_cons_succ, Nat.reduceAdd, Nat.reduceMul, Int.reduceToNat, Nat.zero_add, Nat.add_zero]); rfl) ?_)
    refine ow_nil ?_
    rw [h0]
    refine kw_said (fun w h => sat_row_nil 1 1 w h) ?_
    refine kw_said (sat_log (a := a) (by_ := by_) (o := o) (log := []) (depth := 0) (v := .slice none 0 0) (vals := []) ⟨by simp, [], o, List.Perm.refl _, rfl, rfl, by simp⟩ (by omega) aSp) ?_
    have hl : leave s = { s with depth := 0, log := [] } := by unfold leave; rw [if_pos h1]
    refine kw_said (sat_hl (s := leave s) (by_ := by_) (gv := gv) (gc := gc) (o := o) (by rw [hl]; exact hg) (by rw [hl]; exact hok) (by rw [hl]; exact aSp)) ?_
    refine kw_fin rfl (Split.back aSp) ⟨(), trivial, ⟨_, rfl⟩, rfl, rfl⟩
  · skip
    have h1 : ¬ s.depth = 1 := by have := of_decide_eq_false hb13; omega
    have h0 : ((s.depth : Int) - 1) = ((s.depth - 1 : Nat) : Int) := by omega
    refine cw_skip ?_
    rw [h0]
    refine kw_said (sat_log hlk (depth := s.depth - 1) (by omega) aSp) ?_
    have hl : leave s = { s with depth := s.depth - 1 } := by unfold leave; rw [if_neg h1]
    refine kw_said (sat_hl (s := leave s) (by_ := by_) (gv := gv) (gc := gc) (o := o) (by rw [hl]; exact hg) (by rw [hl]; exact hok) (by rw [hl]; exact aSp)) ?_
    refine kw_fin rfl (Split.back aSp) ⟨(), trivial, ⟨_, rfl⟩, rfl, rfl⟩
end Go.Proofs.YthlclfdnhnnebaaGreatDoor
end
