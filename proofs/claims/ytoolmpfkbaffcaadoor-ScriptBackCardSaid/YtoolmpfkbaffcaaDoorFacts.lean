/- Closed facts on the types and functions of the translation: printed by fx.py, joined. -/
import Derived.Test.YtoolmpfkbaffcaaDoorProg
import Derived.KernelRfl
import Derived.Test.YtoolmpfkbaffcaaDoorSlKey
set_option linter.all false
namespace Go.Proofs.YtoolmpfkbaffcaaDoor
open Go
theorem F.hb13 : Sl.hasBody Tryd.prog 13 = true := by kernel_rfl
theorem F.hb17 : Sl.hasBody Tryd.prog 17 = true := by kernel_rfl
theorem F.pl30 : Sl.tyPlaces Tryd.prog 30 = some ([(0, 1), (1, 1), (2, 1)], .agg #[.string ByteArray.empty, .slice none 0 0, .string ByteArray.empty]) := by kernel_rfl
theorem F.st9 : Sl.tyString Tryd.prog 9 = true := by kernel_rfl
theorem F.by5 : Sl.tyBy Tryd.prog 5 = true := by kernel_rfl
theorem F.sc5 : Sl.tyScalar Tryd.prog 5 = true := by kernel_rfl
theorem F.sl56 : Sl.tySlice Tryd.prog 56 5 1 = true := by kernel_rfl
theorem F.ag26 : Sl.tyAgg Tryd.prog 26 3 = true := by kernel_rfl
theorem F.fld26_0 : Sl.tyField Tryd.prog 26 0 0 = true := by kernel_rfl
theorem F.fld26_1 : Sl.tyField Tryd.prog 26 1 1 = true := by kernel_rfl
theorem F.fld26_2 : Sl.tyField Tryd.prog 26 2 2 = true := by kernel_rfl
theorem F.hb15 : Sl.hasBody Tryd.prog 15 = true := by kernel_rfl
theorem F.hb23 : Sl.hasBody Tryd.prog 23 = true := by kernel_rfl
theorem F.hb26 : Sl.hasBody Tryd.prog 26 = true := by kernel_rfl
theorem F.pl26 : Sl.tyPlaces Tryd.prog 26 = some ([(0, 1), (1, 1), (2, 1)], .agg #[.string ByteArray.empty, .slice none 0 0, .string ByteArray.empty]) := by kernel_rfl
theorem F.sc24 : Sl.tyScalar Tryd.prog 24 = true := by kernel_rfl
theorem F.sc3 : Sl.tyScalar Tryd.prog 3 = true := by kernel_rfl
theorem F.sc9 : Sl.tyScalar Tryd.prog 9 = true := by kernel_rfl
theorem F.sl24 : Sl.tySlice Tryd.prog 24 3 1 = true := by kernel_rfl
theorem F.sl41 : Sl.tySlice Tryd.prog 41 9 1 = true := by kernel_rfl
theorem F.sz24 : (match Tryd.prog.info? 24 with | some i => i.size == 1 | none => false) = true := by kernel_rfl
theorem F.sz26 : (match Tryd.prog.info? 26 with | some i => i.size == 3 | none => false) = true := by kernel_rfl
theorem F.sz9 : (match Tryd.prog.info? 9 with | some i => i.size == 1 | none => false) = true := by kernel_rfl
theorem F.tb3 : Sl.tyBytes Tryd.prog 3 8 = true := by kernel_rfl
theorem F.z26 : (match Tryd.prog.info? 26 with | some i => i.zero | none => none) = some (.agg #[.string ByteArray.empty, .slice none 0 0, .string ByteArray.empty]) := by kernel_rfl
theorem F.z3 : (match Tryd.prog.info? 3 with | some i => i.zero | none => none) = some (.int .i64 (0)) := by kernel_rfl
theorem F.ag30 : Sl.tyAgg Tryd.prog 30 3 = true := by kernel_rfl
theorem F.fld30_0 : Sl.tyField Tryd.prog 30 0 0 = true := by kernel_rfl
theorem F.fld30_1 : Sl.tyField Tryd.prog 30 1 1 = true := by kernel_rfl
theorem F.fld30_2 : Sl.tyField Tryd.prog 30 2 2 = true := by kernel_rfl
theorem F.fol : Tryd.prog.follows .mixedOrders = true := by kernel_rfl
theorem F.hb10 : Sl.hasBody Tryd.prog 10 = true := by kernel_rfl
theorem F.hb11 : Sl.hasBody Tryd.prog 11 = true := by kernel_rfl
theorem F.hb6 : Sl.hasBody Tryd.prog 6 = true := by kernel_rfl
theorem F.hb7 : Sl.hasBody Tryd.prog 7 = true := by kernel_rfl
theorem F.hb8 : Sl.hasBody Tryd.prog 8 = true := by kernel_rfl
theorem F.hb9 : Sl.hasBody Tryd.prog 9 = true := by kernel_rfl
theorem F.sz30 : (match Tryd.prog.info? 30 with | some i => i.size == 3 | none => false) = true := by kernel_rfl
theorem F.z30 : (match Tryd.prog.info? 30 with | some i => i.zero | none => none) = some (.agg #[.string ByteArray.empty, .slice none 0 0, .string ByteArray.empty]) := by kernel_rfl
theorem F.hb18 : Sl.hasBody Tryd.prog 18 = true := by kernel_rfl
theorem F.hb24 : Sl.hasBody Tryd.prog 24 = true := by kernel_rfl
theorem F.tb9 : Sl.tyBytes Tryd.prog 9 16 = true := by kernel_rfl
theorem F.z9 : (match Tryd.prog.info? 9 with | some i => i.zero | none => none) = some (.string ByteArray.empty) := by kernel_rfl
theorem F.hb16 : Sl.hasBody Tryd.prog 16 = true := by kernel_rfl
theorem F.hb37 : Sl.hasBody Tryd.prog 37 = true := by kernel_rfl
theorem F.bo4 : (match Tryd.prog.underlying 4 with | some .bool => true | _ => false) = true := by kernel_rfl
theorem F.hb12 : Sl.hasBody Tryd.prog 12 = true := by kernel_rfl
theorem F.hb14 : Sl.hasBody Tryd.prog 14 = true := by kernel_rfl
theorem F.hb19 : Sl.hasBody Tryd.prog 19 = true := by kernel_rfl
theorem F.hb20 : Sl.hasBody Tryd.prog 20 = true := by kernel_rfl
theorem F.hb21 : Sl.hasBody Tryd.prog 21 = true := by kernel_rfl
theorem F.hb22 : Sl.hasBody Tryd.prog 22 = true := by kernel_rfl
theorem F.in3 : Sl.tyInt Tryd.prog 3 .i64 = true := by kernel_rfl
theorem F.ts5 : (Tryd.prog.underlying 5).isSome = true := by kernel_rfl
theorem F.hb25 : Sl.hasBody Tryd.prog 25 = true := by kernel_rfl
end Go.Proofs.YtoolmpfkbaffcaaDoor
