/- Closed facts on the types and functions of the translation: printed by slgen.py. -/
import Derived.Test.YtofffddcbjkdcaaProg
import Derived.Test.YtofffddcbjkdcaaSlEq
import Derived.KernelRfl
set_option linter.all false
namespace Go.Proofs.Ytofffddcbjkdcaa
open Go
theorem F.fol : Try.prog.follows .mixedOrders = true := by kernel_rfl
theorem F.ts1 : (Try.prog.underlying 1).isSome = true := by kernel_rfl
theorem F.sz1 : (match Try.prog.info? 1 with | some i => i.size == 1 | none => false) = true := by kernel_rfl
theorem F.sc1 : Sl.tyScalar Try.prog 1 = true := by kernel_rfl
theorem F.ni1 : (match Try.prog.underlying 1 with | some (.interface _) | none => false | _ => true) = true := by kernel_rfl
theorem F.tb1 : Sl.tyBytes Try.prog 1 8 = true := by kernel_rfl
theorem F.z1 : (match Try.prog.info? 1 with | some i => i.zero | none => none) = some (.nilFunc) := by kernel_rfl
theorem F.ts2 : (Try.prog.underlying 2).isSome = true := by kernel_rfl
theorem F.sz2 : (match Try.prog.info? 2 with | some i => i.size == 1 | none => false) = true := by kernel_rfl
theorem F.sc2 : Sl.tyScalar Try.prog 2 = true := by kernel_rfl
theorem F.ni2 : (match Try.prog.underlying 2 with | some (.interface _) | none => false | _ => true) = true := by kernel_rfl
theorem F.tb2 : Sl.tyBytes Try.prog 2 8 = true := by kernel_rfl
theorem F.in2 : Sl.tyInt Try.prog 2 .i64 = true := by kernel_rfl
theorem F.z2 : (match Try.prog.info? 2 with | some i => i.zero | none => none) = some (.int .i64 (0)) := by kernel_rfl
theorem F.ts3 : (Try.prog.underlying 3).isSome = true := by kernel_rfl
theorem F.sz3 : (match Try.prog.info? 3 with | some i => i.size == 1 | none => false) = true := by kernel_rfl
theorem F.sc3 : Sl.tyScalar Try.prog 3 = true := by kernel_rfl
theorem F.ni3 : (match Try.prog.underlying 3 with | some (.interface _) | none => false | _ => true) = true := by kernel_rfl
theorem F.tb3 : Sl.tyBytes Try.prog 3 8 = true := by kernel_rfl
theorem F.in3 : Sl.tyInt Try.prog 3 .i64 = true := by kernel_rfl
theorem F.z3 : (match Try.prog.info? 3 with | some i => i.zero | none => none) = some (.int .i64 (0)) := by kernel_rfl
theorem F.ts4 : (Try.prog.underlying 4).isSome = true := by kernel_rfl
theorem F.sz4 : (match Try.prog.info? 4 with | some i => i.size == 1 | none => false) = true := by kernel_rfl
theorem F.sc4 : Sl.tyScalar Try.prog 4 = true := by kernel_rfl
theorem F.ni4 : (match Try.prog.underlying 4 with | some (.interface _) | none => false | _ => true) = true := by kernel_rfl
theorem F.tb4 : Sl.tyBytes Try.prog 4 1 = true := by kernel_rfl
theorem F.bo4 : (match Try.prog.underlying 4 with | some .bool => true | _ => false) = true := by kernel_rfl
theorem F.z4 : (match Try.prog.info? 4 with | some i => i.zero | none => none) = some (.bool false) := by kernel_rfl
theorem F.ts5 : (Try.prog.underlying 5).isSome = true := by kernel_rfl
theorem F.sz5 : (match Try.prog.info? 5 with | some i => i.size == 1 | none => false) = true := by kernel_rfl
theorem F.sc5 : Sl.tyScalar Try.prog 5 = true := by kernel_rfl
theorem F.ni5 : (match Try.prog.underlying 5 with | some (.interface _) | none => false | _ => true) = true := by kernel_rfl
theorem F.by5 : Sl.tyBy Try.prog 5 = true := by kernel_rfl
theorem F.tb5 : Sl.tyBytes Try.prog 5 1 = true := by kernel_rfl
theorem F.in5 : Sl.tyInt Try.prog 5 .u8 = true := by kernel_rfl
theorem F.z5 : (match Try.prog.info? 5 with | some i => i.zero | none => none) = some (.int .u8 (0)) := by kernel_rfl
theorem F.ts6 : (Try.prog.underlying 6).isSome = true := by kernel_rfl
theorem F.sz6 : (match Try.prog.info? 6 with | some i => i.size == 1 | none => false) = true := by kernel_rfl
theorem F.sc6 : Sl.tyScalar Try.prog 6 = true := by kernel_rfl
theorem F.ni6 : (match Try.prog.underlying 6 with | some (.interface _) | none => false | _ => true) = true := by kernel_rfl
theorem F.by6 : Sl.tyBy Try.prog 6 = true := by kernel_rfl
theorem F.tb6 : Sl.tyBytes Try.prog 6 1 = true := by kernel_rfl
theorem F.in6 : Sl.tyInt Try.prog 6 .u8 = true := by kernel_rfl
theorem F.z6 : (match Try.prog.info? 6 with | some i => i.zero | none => none) = some (.int .u8 (0)) := by kernel_rfl
theorem F.ts7 : (Try.prog.underlying 7).isSome = true := by kernel_rfl
theorem F.sz7 : (match Try.prog.info? 7 with | some i => i.size == 4 | none => false) = true := by kernel_rfl
theorem F.ag7 : Sl.tyAgg Try.prog 7 4 = true := by kernel_rfl
theorem F.ni7 : (match Try.prog.underlying 7 with | some (.interface _) | none => false | _ => true) = true := by kernel_rfl
theorem F.fld7_0 : Sl.tyField Try.prog 7 0 0 = true := by kernel_rfl
theorem F.fs7_0 : Sl.tyFieldAt Try.prog 7 0 0 0 false = true := by kernel_rfl
theorem F.fld7_1 : Sl.tyField Try.prog 7 1 1 = true := by kernel_rfl
theorem F.fs7_1 : Sl.tyFieldAt Try.prog 7 1 1 0 false = true := by kernel_rfl
theorem F.fld7_2 : Sl.tyField Try.prog 7 2 2 = true := by kernel_rfl
theorem F.fs7_2 : Sl.tyFieldAt Try.prog 7 2 2 0 false = true := by kernel_rfl
theorem F.fld7_3 : Sl.tyField Try.prog 7 3 3 = true := by kernel_rfl
theorem F.fs7_3 : Sl.tyFieldAt Try.prog 7 3 3 0 false = true := by kernel_rfl
theorem F.tb7 : Sl.tyBytes Try.prog 7 24 = true := by kernel_rfl
theorem F.pl7 : Sl.tyPlaces Try.prog 7 = some ([(0, 1), (1, 1), (2, 1), (3, 1)], .agg #[.int .i64 (0), .int .i64 (0), .bool false, .int .u8 (0)]) := by kernel_rfl
theorem F.z7 : (match Try.prog.info? 7 with | some i => i.zero | none => none) = some (.agg #[.int .i64 (0), .int .i64 (0), .bool false, .int .u8 (0)]) := by kernel_rfl
theorem F.ts8 : (Try.prog.underlying 8).isSome = true := by kernel_rfl
theorem F.sz8 : (match Try.prog.info? 8 with | some i => i.size == 4 | none => false) = true := by kernel_rfl
theorem F.ag8 : Sl.tyAgg Try.prog 8 4 = true := by kernel_rfl
theorem F.ni8 : (match Try.prog.underlying 8 with | some (.interface _) | none => false | _ => true) = true := by kernel_rfl
theorem F.fld8_0 : Sl.tyField Try.prog 8 0 0 = true := by kernel_rfl
theorem F.fs8_0 : Sl.tyFieldAt Try.prog 8 0 0 0 false = true := by kernel_rfl
theorem F.fld8_1 : Sl.tyField Try.prog 8 1 1 = true := by kernel_rfl
theorem F.fs8_1 : Sl.tyFieldAt Try.prog 8 1 1 0 false = true := by kernel_rfl
theorem F.fld8_2 : Sl.tyField Try.prog 8 2 2 = true := by kernel_rfl
theorem F.fs8_2 : Sl.tyFieldAt Try.prog 8 2 2 0 false = true := by kernel_rfl
theorem F.fld8_3 : Sl.tyField Try.prog 8 3 3 = true := by kernel_rfl
theorem F.fs8_3 : Sl.tyFieldAt Try.prog 8 3 3 0 false = true := by kernel_rfl
theorem F.tb8 : Sl.tyBytes Try.prog 8 24 = true := by kernel_rfl
theorem F.pl8 : Sl.tyPlaces Try.prog 8 = some ([(0, 1), (1, 1), (2, 1), (3, 1)], .agg #[.int .i64 (0), .int .i64 (0), .bool false, .int .u8 (0)]) := by kernel_rfl
theorem F.z8 : (match Try.prog.info? 8 with | some i => i.zero | none => none) = some (.agg #[.int .i64 (0), .int .i64 (0), .bool false, .int .u8 (0)]) := by kernel_rfl
theorem F.ts9 : (Try.prog.underlying 9).isSome = true := by kernel_rfl
theorem F.sz9 : (match Try.prog.info? 9 with | some i => i.size == 1 | none => false) = true := by kernel_rfl
theorem F.sc9 : Sl.tyScalar Try.prog 9 = true := by kernel_rfl
theorem F.ni9 : (match Try.prog.underlying 9 with | some (.interface _) | none => false | _ => true) = true := by kernel_rfl
theorem F.tb9 : Sl.tyBytes Try.prog 9 16 = true := by kernel_rfl
theorem F.st9 : Sl.tyString Try.prog 9 = true := by kernel_rfl
theorem F.z9 : (match Try.prog.info? 9 with | some i => i.zero | none => none) = some (.string ByteArray.empty) := by kernel_rfl
theorem F.ts10 : (Try.prog.underlying 10).isSome = true := by kernel_rfl
theorem F.sz10 : (match Try.prog.info? 10 with | some i => i.size == 1 | none => false) = true := by kernel_rfl
theorem F.sc10 : Sl.tyScalar Try.prog 10 = true := by kernel_rfl
theorem F.ni10 : (match Try.prog.underlying 10 with | some (.interface _) | none => false | _ => true) = true := by kernel_rfl
theorem F.tb10 : Sl.tyBytes Try.prog 10 16 = true := by kernel_rfl
theorem F.st10 : Sl.tyString Try.prog 10 = true := by kernel_rfl
theorem F.z10 : (match Try.prog.info? 10 with | some i => i.zero | none => none) = some (.string ByteArray.empty) := by kernel_rfl
theorem F.ts11 : (Try.prog.underlying 11).isSome = true := by kernel_rfl
theorem F.sz11 : (match Try.prog.info? 11 with | some i => i.size == 1 | none => false) = true := by kernel_rfl
theorem F.sc11 : Sl.tyScalar Try.prog 11 = true := by kernel_rfl
theorem F.ni11 : (match Try.prog.underlying 11 with | some (.interface _) | none => false | _ => true) = true := by kernel_rfl
theorem F.tb11 : Sl.tyBytes Try.prog 11 16 = true := by kernel_rfl
theorem F.st11 : Sl.tyString Try.prog 11 = true := by kernel_rfl
theorem F.z11 : (match Try.prog.info? 11 with | some i => i.zero | none => none) = some (.string ByteArray.empty) := by kernel_rfl
theorem F.ts12 : (Try.prog.underlying 12).isSome = true := by kernel_rfl
theorem F.sz12 : (match Try.prog.info? 12 with | some i => i.size == 1 | none => false) = true := by kernel_rfl
theorem F.sc12 : Sl.tyScalar Try.prog 12 = true := by kernel_rfl
theorem F.ni12 : (match Try.prog.underlying 12 with | some (.interface _) | none => false | _ => true) = true := by kernel_rfl
theorem F.tb12 : Sl.tyBytes Try.prog 12 8 = true := by kernel_rfl
theorem F.in12 : Sl.tyInt Try.prog 12 .u64 = true := by kernel_rfl
theorem F.z12 : (match Try.prog.info? 12 with | some i => i.zero | none => none) = some (.int .u64 (0)) := by kernel_rfl
theorem F.ts13 : (Try.prog.underlying 13).isSome = true := by kernel_rfl
theorem F.sz13 : (match Try.prog.info? 13 with | some i => i.size == 2 | none => false) = true := by kernel_rfl
theorem F.ag13 : Sl.tyAgg Try.prog 13 2 = true := by kernel_rfl
theorem F.ni13 : (match Try.prog.underlying 13 with | some (.interface _) | none => false | _ => true) = true := by kernel_rfl
theorem F.fld13_0 : Sl.tyField Try.prog 13 0 0 = true := by kernel_rfl
theorem F.fs13_0 : Sl.tyFieldAt Try.prog 13 0 0 0 false = true := by kernel_rfl
theorem F.fld13_1 : Sl.tyField Try.prog 13 1 1 = true := by kernel_rfl
theorem F.fs13_1 : Sl.tyFieldAt Try.prog 13 1 1 0 false = true := by kernel_rfl
theorem F.tb13 : Sl.tyBytes Try.prog 13 24 = true := by kernel_rfl
theorem F.pl13 : Sl.tyPlaces Try.prog 13 = some ([(0, 1), (1, 1)], .agg #[.string ByteArray.empty, .int .u64 (0)]) := by kernel_rfl
theorem F.z13 : (match Try.prog.info? 13 with | some i => i.zero | none => none) = some (.agg #[.string ByteArray.empty, .int .u64 (0)]) := by kernel_rfl
theorem F.ts14 : (Try.prog.underlying 14).isSome = true := by kernel_rfl
theorem F.sz14 : (match Try.prog.info? 14 with | some i => i.size == 2 | none => false) = true := by kernel_rfl
theorem F.ag14 : Sl.tyAgg Try.prog 14 2 = true := by kernel_rfl
theorem F.ni14 : (match Try.prog.underlying 14 with | some (.interface _) | none => false | _ => true) = true := by kernel_rfl
theorem F.fld14_0 : Sl.tyField Try.prog 14 0 0 = true := by kernel_rfl
theorem F.fs14_0 : Sl.tyFieldAt Try.prog 14 0 0 0 false = true := by kernel_rfl
theorem F.fld14_1 : Sl.tyField Try.prog 14 1 1 = true := by kernel_rfl
theorem F.fs14_1 : Sl.tyFieldAt Try.prog 14 1 1 0 false = true := by kernel_rfl
theorem F.tb14 : Sl.tyBytes Try.prog 14 24 = true := by kernel_rfl
theorem F.pl14 : Sl.tyPlaces Try.prog 14 = some ([(0, 1), (1, 1)], .agg #[.string ByteArray.empty, .int .u64 (0)]) := by kernel_rfl
theorem F.z14 : (match Try.prog.info? 14 with | some i => i.zero | none => none) = some (.agg #[.string ByteArray.empty, .int .u64 (0)]) := by kernel_rfl
theorem F.ts15 : (Try.prog.underlying 15).isSome = true := by kernel_rfl
theorem F.sz15 : (match Try.prog.info? 15 with | some i => i.size == 1 | none => false) = true := by kernel_rfl
theorem F.sc15 : Sl.tyScalar Try.prog 15 = true := by kernel_rfl
theorem F.ni15 : (match Try.prog.underlying 15 with | some (.interface _) | none => false | _ => true) = true := by kernel_rfl
theorem F.pt15 : Sl.tyPtr Try.prog 15 = true := by kernel_rfl
theorem F.tb15 : Sl.tyBytes Try.prog 15 8 = true := by kernel_rfl
theorem F.z15 : (match Try.prog.info? 15 with | some i => i.zero | none => none) = some (.pointer none) := by kernel_rfl
theorem F.ts16 : (Try.prog.underlying 16).isSome = true := by kernel_rfl
theorem F.sz16 : (match Try.prog.info? 16 with | some i => i.size == 1 | none => false) = true := by kernel_rfl
theorem F.sc16 : Sl.tyScalar Try.prog 16 = true := by kernel_rfl
theorem F.ni16 : (match Try.prog.underlying 16 with | some (.interface _) | none => false | _ => true) = true := by kernel_rfl
theorem F.pt16 : Sl.tyPtr Try.prog 16 = true := by kernel_rfl
theorem F.tb16 : Sl.tyBytes Try.prog 16 8 = true := by kernel_rfl
theorem F.z16 : (match Try.prog.info? 16 with | some i => i.zero | none => none) = some (.pointer none) := by kernel_rfl
theorem F.ts17 : (Try.prog.underlying 17).isSome = true := by kernel_rfl
theorem F.sz17 : (match Try.prog.info? 17 with | some i => i.size == 1 | none => false) = true := by kernel_rfl
theorem F.sc17 : Sl.tyScalar Try.prog 17 = true := by kernel_rfl
theorem F.ni17 : (match Try.prog.underlying 17 with | some (.interface _) | none => false | _ => true) = true := by kernel_rfl
theorem F.pt17 : Sl.tyPtr Try.prog 17 = true := by kernel_rfl
theorem F.tb17 : Sl.tyBytes Try.prog 17 8 = true := by kernel_rfl
theorem F.z17 : (match Try.prog.info? 17 with | some i => i.zero | none => none) = some (.pointer none) := by kernel_rfl
theorem F.ts18 : (Try.prog.underlying 18).isSome = true := by kernel_rfl
theorem F.sz18 : (match Try.prog.info? 18 with | some i => i.size == 1 | none => false) = true := by kernel_rfl
theorem F.ag18 : Sl.tyAgg Try.prog 18 1 = true := by kernel_rfl
theorem F.ni18 : (match Try.prog.underlying 18 with | some (.interface _) | none => false | _ => true) = true := by kernel_rfl
theorem F.fld18_0 : Sl.tyField Try.prog 18 0 0 = true := by kernel_rfl
theorem F.fs18_0 : Sl.tyFieldAt Try.prog 18 0 0 0 false = true := by kernel_rfl
theorem F.tb18 : Sl.tyBytes Try.prog 18 8 = true := by kernel_rfl
theorem F.pl18 : Sl.tyPlaces Try.prog 18 = some ([(0, 1)], .agg #[.pointer none]) := by kernel_rfl
theorem F.z18 : (match Try.prog.info? 18 with | some i => i.zero | none => none) = some (.agg #[.pointer none]) := by kernel_rfl
theorem F.ts19 : (Try.prog.underlying 19).isSome = true := by kernel_rfl
theorem F.sz19 : (match Try.prog.info? 19 with | some i => i.size == 1 | none => false) = true := by kernel_rfl
theorem F.ag19 : Sl.tyAgg Try.prog 19 1 = true := by kernel_rfl
theorem F.ni19 : (match Try.prog.underlying 19 with | some (.interface _) | none => false | _ => true) = true := by kernel_rfl
theorem F.fld19_0 : Sl.tyField Try.prog 19 0 0 = true := by kernel_rfl
theorem F.fs19_0 : Sl.tyFieldAt Try.prog 19 0 0 0 false = true := by kernel_rfl
theorem F.tb19 : Sl.tyBytes Try.prog 19 8 = true := by kernel_rfl
theorem F.pl19 : Sl.tyPlaces Try.prog 19 = some ([(0, 1)], .agg #[.pointer none]) := by kernel_rfl
theorem F.z19 : (match Try.prog.info? 19 with | some i => i.zero | none => none) = some (.agg #[.pointer none]) := by kernel_rfl
theorem F.ts20 : (Try.prog.underlying 20).isSome = true := by kernel_rfl
theorem F.sz20 : (match Try.prog.info? 20 with | some i => i.size == 1 | none => false) = true := by kernel_rfl
theorem F.sc20 : Sl.tyScalar Try.prog 20 = true := by kernel_rfl
theorem F.if20 : Sl.tyIface Try.prog 20 = true := by kernel_rfl
theorem F.tb20 : Sl.tyBytes Try.prog 20 16 = true := by kernel_rfl
theorem F.z20 : (match Try.prog.info? 20 with | some i => i.zero | none => none) = some (.nilIface) := by kernel_rfl
theorem F.ts21 : (Try.prog.underlying 21).isSome = true := by kernel_rfl
theorem F.sz21 : (match Try.prog.info? 21 with | some i => i.size == 1 | none => false) = true := by kernel_rfl
theorem F.sc21 : Sl.tyScalar Try.prog 21 = true := by kernel_rfl
theorem F.ni21 : (match Try.prog.underlying 21 with | some (.interface _) | none => false | _ => true) = true := by kernel_rfl
theorem F.tb21 : Sl.tyBytes Try.prog 21 4 = true := by kernel_rfl
theorem F.in21 : Sl.tyInt Try.prog 21 .i32 = true := by kernel_rfl
theorem F.z21 : (match Try.prog.info? 21 with | some i => i.zero | none => none) = some (.int .i32 (0)) := by kernel_rfl
theorem F.ts22 : (Try.prog.underlying 22).isSome = true := by kernel_rfl
theorem F.sz22 : (match Try.prog.info? 22 with | some i => i.size == 1 | none => false) = true := by kernel_rfl
theorem F.sc22 : Sl.tyScalar Try.prog 22 = true := by kernel_rfl
theorem F.ni22 : (match Try.prog.underlying 22 with | some (.interface _) | none => false | _ => true) = true := by kernel_rfl
theorem F.tb22 : Sl.tyBytes Try.prog 22 8 = true := by kernel_rfl
theorem F.z22 : (match Try.prog.info? 22 with | some i => i.zero | none => none) = some (.nilFunc) := by kernel_rfl
theorem F.ts23 : (Try.prog.underlying 23).isSome = true := by kernel_rfl
theorem F.sz23 : (match Try.prog.info? 23 with | some i => i.size == 1 | none => false) = true := by kernel_rfl
theorem F.sc23 : Sl.tyScalar Try.prog 23 = true := by kernel_rfl
theorem F.ni23 : (match Try.prog.underlying 23 with | some (.interface _) | none => false | _ => true) = true := by kernel_rfl
theorem F.tb23 : Sl.tyBytes Try.prog 23 8 = true := by kernel_rfl
theorem F.z23 : (match Try.prog.info? 23 with | some i => i.zero | none => none) = some (.nilFunc) := by kernel_rfl
theorem F.ts24 : (Try.prog.underlying 24).isSome = true := by kernel_rfl
theorem F.sz24 : (match Try.prog.info? 24 with | some i => i.size == 1 | none => false) = true := by kernel_rfl
theorem F.sc24 : Sl.tyScalar Try.prog 24 = true := by kernel_rfl
theorem F.ni24 : (match Try.prog.underlying 24 with | some (.interface _) | none => false | _ => true) = true := by kernel_rfl
theorem F.tb24 : Sl.tyBytes Try.prog 24 4 = true := by kernel_rfl
theorem F.in24 : Sl.tyInt Try.prog 24 .u32 = true := by kernel_rfl
theorem F.z24 : (match Try.prog.info? 24 with | some i => i.zero | none => none) = some (.int .u32 (0)) := by kernel_rfl
theorem F.ts25 : (Try.prog.underlying 25).isSome = true := by kernel_rfl
theorem F.sz25 : (match Try.prog.info? 25 with | some i => i.size == 1 | none => false) = true := by kernel_rfl
theorem F.sc25 : Sl.tyScalar Try.prog 25 = true := by kernel_rfl
theorem F.ni25 : (match Try.prog.underlying 25 with | some (.interface _) | none => false | _ => true) = true := by kernel_rfl
theorem F.tb25 : Sl.tyBytes Try.prog 25 8 = true := by kernel_rfl
theorem F.z25 : (match Try.prog.info? 25 with | some i => i.zero | none => none) = some (.nilFunc) := by kernel_rfl
theorem F.ts26 : (Try.prog.underlying 26).isSome = true := by kernel_rfl
theorem F.sz26 : (match Try.prog.info? 26 with | some i => i.size == 1 | none => false) = true := by kernel_rfl
theorem F.sc26 : Sl.tyScalar Try.prog 26 = true := by kernel_rfl
theorem F.ni26 : (match Try.prog.underlying 26 with | some (.interface _) | none => false | _ => true) = true := by kernel_rfl
theorem F.tb26 : Sl.tyBytes Try.prog 26 8 = true := by kernel_rfl
theorem F.z26 : (match Try.prog.info? 26 with | some i => i.zero | none => none) = some (.nilFunc) := by kernel_rfl
theorem F.ts27 : (Try.prog.underlying 27).isSome = true := by kernel_rfl
theorem F.sz27 : (match Try.prog.info? 27 with | some i => i.size == 1 | none => false) = true := by kernel_rfl
theorem F.sc27 : Sl.tyScalar Try.prog 27 = true := by kernel_rfl
theorem F.ni27 : (match Try.prog.underlying 27 with | some (.interface _) | none => false | _ => true) = true := by kernel_rfl
theorem F.tb27 : Sl.tyBytes Try.prog 27 8 = true := by kernel_rfl
theorem F.z27 : (match Try.prog.info? 27 with | some i => i.zero | none => none) = some (.nilFunc) := by kernel_rfl
theorem F.ts28 : (Try.prog.underlying 28).isSome = true := by kernel_rfl
theorem F.sz28 : (match Try.prog.info? 28 with | some i => i.size == 4 | none => false) = true := by kernel_rfl
theorem F.ag28 : Sl.tyAgg Try.prog 28 4 = true := by kernel_rfl
theorem F.ni28 : (match Try.prog.underlying 28 with | some (.interface _) | none => false | _ => true) = true := by kernel_rfl
theorem F.tb28 : Sl.tyBytes Try.prog 28 4 = true := by kernel_rfl
theorem F.ar28 : Sl.tyArray Try.prog 28 4 5 1 = true := by kernel_rfl
theorem F.z28 : (match Try.prog.info? 28 with | some i => i.zero | none => none) = some (.agg #[.int .u8 (0), .int .u8 (0), .int .u8 (0), .int .u8 (0)]) := by kernel_rfl
theorem F.ts29 : (Try.prog.underlying 29).isSome = true := by kernel_rfl
theorem F.sz29 : (match Try.prog.info? 29 with | some i => i.size == 1 | none => false) = true := by kernel_rfl
theorem F.sc29 : Sl.tyScalar Try.prog 29 = true := by kernel_rfl
theorem F.ni29 : (match Try.prog.underlying 29 with | some (.interface _) | none => false | _ => true) = true := by kernel_rfl
theorem F.tb29 : Sl.tyBytes Try.prog 29 24 = true := by kernel_rfl
theorem F.sl29 : Sl.tySlice Try.prog 29 5 1 = true := by kernel_rfl
theorem F.z29 : (match Try.prog.info? 29 with | some i => i.zero | none => none) = some (.slice none 0 0) := by kernel_rfl
theorem F.ts30 : (Try.prog.underlying 30).isSome = true := by kernel_rfl
theorem F.sz30 : (match Try.prog.info? 30 with | some i => i.size == 1 | none => false) = true := by kernel_rfl
theorem F.sc30 : Sl.tyScalar Try.prog 30 = true := by kernel_rfl
theorem F.ni30 : (match Try.prog.underlying 30 with | some (.interface _) | none => false | _ => true) = true := by kernel_rfl
theorem F.tb30 : Sl.tyBytes Try.prog 30 8 = true := by kernel_rfl
theorem F.z30 : (match Try.prog.info? 30 with | some i => i.zero | none => none) = some (.nilFunc) := by kernel_rfl
theorem F.ts31 : (Try.prog.underlying 31).isSome = true := by kernel_rfl
theorem F.sz31 : (match Try.prog.info? 31 with | some i => i.size == 1 | none => false) = true := by kernel_rfl
theorem F.sc31 : Sl.tyScalar Try.prog 31 = true := by kernel_rfl
theorem F.ni31 : (match Try.prog.underlying 31 with | some (.interface _) | none => false | _ => true) = true := by kernel_rfl
theorem F.tb31 : Sl.tyBytes Try.prog 31 8 = true := by kernel_rfl
theorem F.z31 : (match Try.prog.info? 31 with | some i => i.zero | none => none) = some (.nilFunc) := by kernel_rfl
theorem F.ts32 : (Try.prog.underlying 32).isSome = true := by kernel_rfl
theorem F.sz32 : (match Try.prog.info? 32 with | some i => i.size == 1 | none => false) = true := by kernel_rfl
theorem F.sc32 : Sl.tyScalar Try.prog 32 = true := by kernel_rfl
theorem F.ni32 : (match Try.prog.underlying 32 with | some (.interface _) | none => false | _ => true) = true := by kernel_rfl
theorem F.tb32 : Sl.tyBytes Try.prog 32 8 = true := by kernel_rfl
theorem F.in32 : Sl.tyInt Try.prog 32 .u64 = true := by kernel_rfl
theorem F.z32 : (match Try.prog.info? 32 with | some i => i.zero | none => none) = some (.int .u64 (0)) := by kernel_rfl
theorem F.ts33 : (Try.prog.underlying 33).isSome = true := by kernel_rfl
theorem F.sz33 : (match Try.prog.info? 33 with | some i => i.size == 1 | none => false) = true := by kernel_rfl
theorem F.sc33 : Sl.tyScalar Try.prog 33 = true := by kernel_rfl
theorem F.ni33 : (match Try.prog.underlying 33 with | some (.interface _) | none => false | _ => true) = true := by kernel_rfl
theorem F.tb33 : Sl.tyBytes Try.prog 33 8 = true := by kernel_rfl
theorem F.z33 : (match Try.prog.info? 33 with | some i => i.zero | none => none) = some (.nilFunc) := by kernel_rfl
theorem F.ts34 : (Try.prog.underlying 34).isSome = true := by kernel_rfl
theorem F.sz34 : (match Try.prog.info? 34 with | some i => i.size == 1 | none => false) = true := by kernel_rfl
theorem F.sc34 : Sl.tyScalar Try.prog 34 = true := by kernel_rfl
theorem F.ni34 : (match Try.prog.underlying 34 with | some (.interface _) | none => false | _ => true) = true := by kernel_rfl
theorem F.tb34 : Sl.tyBytes Try.prog 34 8 = true := by kernel_rfl
theorem F.z34 : (match Try.prog.info? 34 with | some i => i.zero | none => none) = some (.nilFunc) := by kernel_rfl
theorem F.ts35 : (Try.prog.underlying 35).isSome = true := by kernel_rfl
theorem F.sz35 : (match Try.prog.info? 35 with | some i => i.size == 1 | none => false) = true := by kernel_rfl
theorem F.sc35 : Sl.tyScalar Try.prog 35 = true := by kernel_rfl
theorem F.ni35 : (match Try.prog.underlying 35 with | some (.interface _) | none => false | _ => true) = true := by kernel_rfl
theorem F.tb35 : Sl.tyBytes Try.prog 35 24 = true := by kernel_rfl
theorem F.sl35 : Sl.tySlice Try.prog 35 3 1 = true := by kernel_rfl
theorem F.z35 : (match Try.prog.info? 35 with | some i => i.zero | none => none) = some (.slice none 0 0) := by kernel_rfl
theorem F.ts36 : (Try.prog.underlying 36).isSome = true := by kernel_rfl
theorem F.sz36 : (match Try.prog.info? 36 with | some i => i.size == 1 | none => false) = true := by kernel_rfl
theorem F.sc36 : Sl.tyScalar Try.prog 36 = true := by kernel_rfl
theorem F.ni36 : (match Try.prog.underlying 36 with | some (.interface _) | none => false | _ => true) = true := by kernel_rfl
theorem F.pt36 : Sl.tyPtr Try.prog 36 = true := by kernel_rfl
theorem F.tb36 : Sl.tyBytes Try.prog 36 8 = true := by kernel_rfl
theorem F.z36 : (match Try.prog.info? 36 with | some i => i.zero | none => none) = some (.pointer none) := by kernel_rfl
theorem F.ts37 : (Try.prog.underlying 37).isSome = true := by kernel_rfl
theorem F.sz37 : (match Try.prog.info? 37 with | some i => i.size == 1 | none => false) = true := by kernel_rfl
theorem F.sc37 : Sl.tyScalar Try.prog 37 = true := by kernel_rfl
theorem F.ni37 : (match Try.prog.underlying 37 with | some (.interface _) | none => false | _ => true) = true := by kernel_rfl
theorem F.tb37 : Sl.tyBytes Try.prog 37 8 = true := by kernel_rfl
theorem F.z37 : (match Try.prog.info? 37 with | some i => i.zero | none => none) = some (.nilFunc) := by kernel_rfl
theorem F.ts38 : (Try.prog.underlying 38).isSome = true := by kernel_rfl
theorem F.sz38 : (match Try.prog.info? 38 with | some i => i.size == 1 | none => false) = true := by kernel_rfl
theorem F.sc38 : Sl.tyScalar Try.prog 38 = true := by kernel_rfl
theorem F.ni38 : (match Try.prog.underlying 38 with | some (.interface _) | none => false | _ => true) = true := by kernel_rfl
theorem F.tb38 : Sl.tyBytes Try.prog 38 8 = true := by kernel_rfl
theorem F.z38 : (match Try.prog.info? 38 with | some i => i.zero | none => none) = some (.nilFunc) := by kernel_rfl
theorem F.ts40 : (Try.prog.underlying 40).isSome = true := by kernel_rfl
theorem F.sz40 : (match Try.prog.info? 40 with | some i => i.size == 1 | none => false) = true := by kernel_rfl
theorem F.sc40 : Sl.tyScalar Try.prog 40 = true := by kernel_rfl
theorem F.ni40 : (match Try.prog.underlying 40 with | some (.interface _) | none => false | _ => true) = true := by kernel_rfl
theorem F.tb40 : Sl.tyBytes Try.prog 40 8 = true := by kernel_rfl
theorem F.z40 : (match Try.prog.info? 40 with | some i => i.zero | none => none) = some (.nilFunc) := by kernel_rfl
theorem F.ts41 : (Try.prog.underlying 41).isSome = true := by kernel_rfl
theorem F.sz41 : (match Try.prog.info? 41 with | some i => i.size == 1 | none => false) = true := by kernel_rfl
theorem F.sc41 : Sl.tyScalar Try.prog 41 = true := by kernel_rfl
theorem F.ni41 : (match Try.prog.underlying 41 with | some (.interface _) | none => false | _ => true) = true := by kernel_rfl
theorem F.tb41 : Sl.tyBytes Try.prog 41 8 = true := by kernel_rfl
theorem F.z41 : (match Try.prog.info? 41 with | some i => i.zero | none => none) = some (.nilFunc) := by kernel_rfl
theorem F.ts42 : (Try.prog.underlying 42).isSome = true := by kernel_rfl
theorem F.sz42 : (match Try.prog.info? 42 with | some i => i.size == 1 | none => false) = true := by kernel_rfl
theorem F.sc42 : Sl.tyScalar Try.prog 42 = true := by kernel_rfl
theorem F.ni42 : (match Try.prog.underlying 42 with | some (.interface _) | none => false | _ => true) = true := by kernel_rfl
theorem F.tb42 : Sl.tyBytes Try.prog 42 8 = true := by kernel_rfl
theorem F.z42 : (match Try.prog.info? 42 with | some i => i.zero | none => none) = some (.nilFunc) := by kernel_rfl
theorem F.ts43 : (Try.prog.underlying 43).isSome = true := by kernel_rfl
theorem F.sz43 : (match Try.prog.info? 43 with | some i => i.size == 1 | none => false) = true := by kernel_rfl
theorem F.sc43 : Sl.tyScalar Try.prog 43 = true := by kernel_rfl
theorem F.ni43 : (match Try.prog.underlying 43 with | some (.interface _) | none => false | _ => true) = true := by kernel_rfl
theorem F.tb43 : Sl.tyBytes Try.prog 43 8 = true := by kernel_rfl
theorem F.z43 : (match Try.prog.info? 43 with | some i => i.zero | none => none) = some (.nilFunc) := by kernel_rfl
theorem F.ts44 : (Try.prog.underlying 44).isSome = true := by kernel_rfl
theorem F.sz44 : (match Try.prog.info? 44 with | some i => i.size == 1 | none => false) = true := by kernel_rfl
theorem F.sc44 : Sl.tyScalar Try.prog 44 = true := by kernel_rfl
theorem F.ni44 : (match Try.prog.underlying 44 with | some (.interface _) | none => false | _ => true) = true := by kernel_rfl
theorem F.tb44 : Sl.tyBytes Try.prog 44 8 = true := by kernel_rfl
theorem F.z44 : (match Try.prog.info? 44 with | some i => i.zero | none => none) = some (.nilFunc) := by kernel_rfl
theorem F.ts45 : (Try.prog.underlying 45).isSome = true := by kernel_rfl
theorem F.sz45 : (match Try.prog.info? 45 with | some i => i.size == 5 | none => false) = true := by kernel_rfl
theorem F.ag45 : Sl.tyAgg Try.prog 45 5 = true := by kernel_rfl
theorem F.ni45 : (match Try.prog.underlying 45 with | some (.interface _) | none => false | _ => true) = true := by kernel_rfl
theorem F.fld45_0 : Sl.tyField Try.prog 45 0 0 = true := by kernel_rfl
theorem F.fs45_0 : Sl.tyFieldAt Try.prog 45 0 0 0 false = true := by kernel_rfl
theorem F.fld45_1 : Sl.tyField Try.prog 45 1 1 = true := by kernel_rfl
theorem F.fs45_1 : Sl.tyFieldAt Try.prog 45 1 1 0 false = true := by kernel_rfl
theorem F.fld45_2 : Sl.tyField Try.prog 45 2 2 = true := by kernel_rfl
theorem F.fs45_2 : Sl.tyFieldAt Try.prog 45 2 2 0 false = true := by kernel_rfl
theorem F.fld45_3 : Sl.tyField Try.prog 45 3 3 = true := by kernel_rfl
theorem F.fs45_3 : Sl.tyFieldAt Try.prog 45 3 3 0 false = true := by kernel_rfl
theorem F.fld45_4 : Sl.tyField Try.prog 45 4 4 = true := by kernel_rfl
theorem F.fs45_4 : Sl.tyFieldAt Try.prog 45 4 4 0 false = true := by kernel_rfl
theorem F.tb45 : Sl.tyBytes Try.prog 45 48 = true := by kernel_rfl
theorem F.pl45 : Sl.tyPlaces Try.prog 45 = some ([(0, 1), (1, 1), (2, 1), (3, 1), (4, 1)], .agg #[.int .i64 (0), .int .u32 (0), .int .i64 (0), .int .i64 (0), .string ByteArray.empty]) := by kernel_rfl
theorem F.z45 : (match Try.prog.info? 45 with | some i => i.zero | none => none) = some (.agg #[.int .i64 (0), .int .u32 (0), .int .i64 (0), .int .i64 (0), .string ByteArray.empty]) := by kernel_rfl
theorem F.ts46 : (Try.prog.underlying 46).isSome = true := by kernel_rfl
theorem F.sz46 : (match Try.prog.info? 46 with | some i => i.size == 5 | none => false) = true := by kernel_rfl
theorem F.ag46 : Sl.tyAgg Try.prog 46 5 = true := by kernel_rfl
theorem F.ni46 : (match Try.prog.underlying 46 with | some (.interface _) | none => false | _ => true) = true := by kernel_rfl
theorem F.fld46_0 : Sl.tyField Try.prog 46 0 0 = true := by kernel_rfl
theorem F.fs46_0 : Sl.tyFieldAt Try.prog 46 0 0 0 false = true := by kernel_rfl
theorem F.fld46_1 : Sl.tyField Try.prog 46 1 1 = true := by kernel_rfl
theorem F.fs46_1 : Sl.tyFieldAt Try.prog 46 1 1 0 false = true := by kernel_rfl
theorem F.fld46_2 : Sl.tyField Try.prog 46 2 2 = true := by kernel_rfl
theorem F.fs46_2 : Sl.tyFieldAt Try.prog 46 2 2 0 false = true := by kernel_rfl
theorem F.fld46_3 : Sl.tyField Try.prog 46 3 3 = true := by kernel_rfl
theorem F.fs46_3 : Sl.tyFieldAt Try.prog 46 3 3 0 false = true := by kernel_rfl
theorem F.fld46_4 : Sl.tyField Try.prog 46 4 4 = true := by kernel_rfl
theorem F.fs46_4 : Sl.tyFieldAt Try.prog 46 4 4 0 false = true := by kernel_rfl
theorem F.fk46 : Sl.tyKinds Try.prog 46 = some [0, 0, 0, 0, 1] := by kernel_rfl
theorem F.tb46 : Sl.tyBytes Try.prog 46 48 = true := by kernel_rfl
theorem F.pl46 : Sl.tyPlaces Try.prog 46 = some ([(0, 1), (1, 1), (2, 1), (3, 1), (4, 1)], .agg #[.int .i64 (0), .int .u32 (0), .int .i64 (0), .int .i64 (0), .string ByteArray.empty]) := by kernel_rfl
theorem F.z46 : (match Try.prog.info? 46 with | some i => i.zero | none => none) = some (.agg #[.int .i64 (0), .int .u32 (0), .int .i64 (0), .int .i64 (0), .string ByteArray.empty]) := by kernel_rfl
theorem F.ts47 : (Try.prog.underlying 47).isSome = true := by kernel_rfl
theorem F.sz47 : (match Try.prog.info? 47 with | some i => i.size == 1 | none => false) = true := by kernel_rfl
theorem F.sc47 : Sl.tyScalar Try.prog 47 = true := by kernel_rfl
theorem F.ni47 : (match Try.prog.underlying 47 with | some (.interface _) | none => false | _ => true) = true := by kernel_rfl
theorem F.tb47 : Sl.tyBytes Try.prog 47 8 = true := by kernel_rfl
theorem F.z47 : (match Try.prog.info? 47 with | some i => i.zero | none => none) = some (.nilFunc) := by kernel_rfl
theorem F.ts48 : (Try.prog.underlying 48).isSome = true := by kernel_rfl
theorem F.sz48 : (match Try.prog.info? 48 with | some i => i.size == 1 | none => false) = true := by kernel_rfl
theorem F.sc48 : Sl.tyScalar Try.prog 48 = true := by kernel_rfl
theorem F.ni48 : (match Try.prog.underlying 48 with | some (.interface _) | none => false | _ => true) = true := by kernel_rfl
theorem F.tb48 : Sl.tyBytes Try.prog 48 8 = true := by kernel_rfl
theorem F.in48 : Sl.tyInt Try.prog 48 .i64 = true := by kernel_rfl
theorem F.z48 : (match Try.prog.info? 48 with | some i => i.zero | none => none) = some (.int .i64 (0)) := by kernel_rfl
theorem F.ts50 : (Try.prog.underlying 50).isSome = true := by kernel_rfl
theorem F.sz50 : (match Try.prog.info? 50 with | some i => i.size == 1 | none => false) = true := by kernel_rfl
theorem F.sc50 : Sl.tyScalar Try.prog 50 = true := by kernel_rfl
theorem F.ni50 : (match Try.prog.underlying 50 with | some (.interface _) | none => false | _ => true) = true := by kernel_rfl
theorem F.tb50 : Sl.tyBytes Try.prog 50 8 = true := by kernel_rfl
theorem F.z50 : (match Try.prog.info? 50 with | some i => i.zero | none => none) = some (.nilFunc) := by kernel_rfl
theorem F.ts51 : (Try.prog.underlying 51).isSome = true := by kernel_rfl
theorem F.sz51 : (match Try.prog.info? 51 with | some i => i.size == 1 | none => false) = true := by kernel_rfl
theorem F.sc51 : Sl.tyScalar Try.prog 51 = true := by kernel_rfl
theorem F.ni51 : (match Try.prog.underlying 51 with | some (.interface _) | none => false | _ => true) = true := by kernel_rfl
theorem F.tb51 : Sl.tyBytes Try.prog 51 8 = true := by kernel_rfl
theorem F.z51 : (match Try.prog.info? 51 with | some i => i.zero | none => none) = some (.nilFunc) := by kernel_rfl
theorem F.ts52 : (Try.prog.underlying 52).isSome = true := by kernel_rfl
theorem F.sz52 : (match Try.prog.info? 52 with | some i => i.size == 5 | none => false) = true := by kernel_rfl
theorem F.ag52 : Sl.tyAgg Try.prog 52 5 = true := by kernel_rfl
theorem F.ni52 : (match Try.prog.underlying 52 with | some (.interface _) | none => false | _ => true) = true := by kernel_rfl
theorem F.fld52_0 : Sl.tyField Try.prog 52 0 0 = true := by kernel_rfl
theorem F.fs52_0 : Sl.tyFieldAt Try.prog 52 0 0 0 false = true := by kernel_rfl
theorem F.fld52_1 : Sl.tyField Try.prog 52 1 1 = true := by kernel_rfl
theorem F.fs52_1 : Sl.tyFieldAt Try.prog 52 1 1 0 false = true := by kernel_rfl
theorem F.fld52_2 : Sl.tyField Try.prog 52 2 2 = true := by kernel_rfl
theorem F.fs52_2 : Sl.tyFieldAt Try.prog 52 2 2 0 false = true := by kernel_rfl
theorem F.fld52_3 : Sl.tyField Try.prog 52 3 3 = true := by kernel_rfl
theorem F.fs52_3 : Sl.tyFieldAt Try.prog 52 3 3 0 false = true := by kernel_rfl
theorem F.fld52_4 : Sl.tyField Try.prog 52 4 4 = true := by kernel_rfl
theorem F.fs52_4 : Sl.tyFieldAt Try.prog 52 4 4 0 false = true := by kernel_rfl
theorem F.tb52 : Sl.tyBytes Try.prog 52 48 = true := by kernel_rfl
theorem F.pl52 : Sl.tyPlaces Try.prog 52 = some ([(0, 1), (1, 1), (2, 1), (3, 1), (4, 1)], .agg #[.int .i64 (0), .int .i64 (0), .int .i64 (0), .int .i64 (0), .string ByteArray.empty]) := by kernel_rfl
theorem F.z52 : (match Try.prog.info? 52 with | some i => i.zero | none => none) = some (.agg #[.int .i64 (0), .int .i64 (0), .int .i64 (0), .int .i64 (0), .string ByteArray.empty]) := by kernel_rfl
theorem F.ts53 : (Try.prog.underlying 53).isSome = true := by kernel_rfl
theorem F.sz53 : (match Try.prog.info? 53 with | some i => i.size == 5 | none => false) = true := by kernel_rfl
theorem F.ag53 : Sl.tyAgg Try.prog 53 5 = true := by kernel_rfl
theorem F.ni53 : (match Try.prog.underlying 53 with | some (.interface _) | none => false | _ => true) = true := by kernel_rfl
theorem F.fld53_0 : Sl.tyField Try.prog 53 0 0 = true := by kernel_rfl
theorem F.fs53_0 : Sl.tyFieldAt Try.prog 53 0 0 0 false = true := by kernel_rfl
theorem F.fld53_1 : Sl.tyField Try.prog 53 1 1 = true := by kernel_rfl
theorem F.fs53_1 : Sl.tyFieldAt Try.prog 53 1 1 0 false = true := by kernel_rfl
theorem F.fld53_2 : Sl.tyField Try.prog 53 2 2 = true := by kernel_rfl
theorem F.fs53_2 : Sl.tyFieldAt Try.prog 53 2 2 0 false = true := by kernel_rfl
theorem F.fld53_3 : Sl.tyField Try.prog 53 3 3 = true := by kernel_rfl
theorem F.fs53_3 : Sl.tyFieldAt Try.prog 53 3 3 0 false = true := by kernel_rfl
theorem F.fld53_4 : Sl.tyField Try.prog 53 4 4 = true := by kernel_rfl
theorem F.fs53_4 : Sl.tyFieldAt Try.prog 53 4 4 0 false = true := by kernel_rfl
theorem F.fk53 : Sl.tyKinds Try.prog 53 = some [0, 0, 0, 0, 1] := by kernel_rfl
theorem F.tb53 : Sl.tyBytes Try.prog 53 48 = true := by kernel_rfl
theorem F.pl53 : Sl.tyPlaces Try.prog 53 = some ([(0, 1), (1, 1), (2, 1), (3, 1), (4, 1)], .agg #[.int .i64 (0), .int .i64 (0), .int .i64 (0), .int .i64 (0), .string ByteArray.empty]) := by kernel_rfl
theorem F.z53 : (match Try.prog.info? 53 with | some i => i.zero | none => none) = some (.agg #[.int .i64 (0), .int .i64 (0), .int .i64 (0), .int .i64 (0), .string ByteArray.empty]) := by kernel_rfl
theorem F.ts54 : (Try.prog.underlying 54).isSome = true := by kernel_rfl
theorem F.sz54 : (match Try.prog.info? 54 with | some i => i.size == 1 | none => false) = true := by kernel_rfl
theorem F.sc54 : Sl.tyScalar Try.prog 54 = true := by kernel_rfl
theorem F.ni54 : (match Try.prog.underlying 54 with | some (.interface _) | none => false | _ => true) = true := by kernel_rfl
theorem F.tb54 : Sl.tyBytes Try.prog 54 8 = true := by kernel_rfl
theorem F.z54 : (match Try.prog.info? 54 with | some i => i.zero | none => none) = some (.nilFunc) := by kernel_rfl
theorem F.ts55 : (Try.prog.underlying 55).isSome = true := by kernel_rfl
theorem F.sz55 : (match Try.prog.info? 55 with | some i => i.size == 1 | none => false) = true := by kernel_rfl
theorem F.sc55 : Sl.tyScalar Try.prog 55 = true := by kernel_rfl
theorem F.ni55 : (match Try.prog.underlying 55 with | some (.interface _) | none => false | _ => true) = true := by kernel_rfl
theorem F.tb55 : Sl.tyBytes Try.prog 55 8 = true := by kernel_rfl
theorem F.z55 : (match Try.prog.info? 55 with | some i => i.zero | none => none) = some (.nilFunc) := by kernel_rfl
theorem F.ts57 : (Try.prog.underlying 57).isSome = true := by kernel_rfl
theorem F.sz57 : (match Try.prog.info? 57 with | some i => i.size == 1 | none => false) = true := by kernel_rfl
theorem F.sc57 : Sl.tyScalar Try.prog 57 = true := by kernel_rfl
theorem F.ni57 : (match Try.prog.underlying 57 with | some (.interface _) | none => false | _ => true) = true := by kernel_rfl
theorem F.tb57 : Sl.tyBytes Try.prog 57 8 = true := by kernel_rfl
theorem F.z57 : (match Try.prog.info? 57 with | some i => i.zero | none => none) = some (.nilFunc) := by kernel_rfl
theorem F.ts58 : (Try.prog.underlying 58).isSome = true := by kernel_rfl
theorem F.sz58 : (match Try.prog.info? 58 with | some i => i.size == 1 | none => false) = true := by kernel_rfl
theorem F.sc58 : Sl.tyScalar Try.prog 58 = true := by kernel_rfl
theorem F.ni58 : (match Try.prog.underlying 58 with | some (.interface _) | none => false | _ => true) = true := by kernel_rfl
theorem F.tb58 : Sl.tyBytes Try.prog 58 8 = true := by kernel_rfl
theorem F.z58 : (match Try.prog.info? 58 with | some i => i.zero | none => none) = some (.nilFunc) := by kernel_rfl
theorem F.ts59 : (Try.prog.underlying 59).isSome = true := by kernel_rfl
theorem F.sz59 : (match Try.prog.info? 59 with | some i => i.size == 1 | none => false) = true := by kernel_rfl
theorem F.sc59 : Sl.tyScalar Try.prog 59 = true := by kernel_rfl
theorem F.ni59 : (match Try.prog.underlying 59 with | some (.interface _) | none => false | _ => true) = true := by kernel_rfl
theorem F.tb59 : Sl.tyBytes Try.prog 59 24 = true := by kernel_rfl
theorem F.sl59 : Sl.tySlice Try.prog 59 9 1 = true := by kernel_rfl
theorem F.z59 : (match Try.prog.info? 59 with | some i => i.zero | none => none) = some (.slice none 0 0) := by kernel_rfl
theorem F.ts60 : (Try.prog.underlying 60).isSome = true := by kernel_rfl
theorem F.sz60 : (match Try.prog.info? 60 with | some i => i.size == 16 | none => false) = true := by kernel_rfl
theorem F.ag60 : Sl.tyAgg Try.prog 60 16 = true := by kernel_rfl
theorem F.ni60 : (match Try.prog.underlying 60 with | some (.interface _) | none => false | _ => true) = true := by kernel_rfl
theorem F.tb60 : Sl.tyBytes Try.prog 60 64 = true := by kernel_rfl
theorem F.ar60 : Sl.tyArray Try.prog 60 16 24 1 = true := by kernel_rfl
theorem F.z60 : (match Try.prog.info? 60 with | some i => i.zero | none => none) = some (.agg #[.int .u32 (0), .int .u32 (0), .int .u32 (0), .int .u32 (0), .int .u32 (0), .int .u32 (0), .int .u32 (0), .int .u32 (0), .int .u32 (0), .int .u32 (0), .int .u32 (0), .int .u32 (0), .int .u32 (0), .int .u32 (0), .int .u32 (0), .int .u32 (0)]) := by kernel_rfl
theorem F.ts61 : (Try.prog.underlying 61).isSome = true := by kernel_rfl
theorem F.sz61 : (match Try.prog.info? 61 with | some i => i.size == 1 | none => false) = true := by kernel_rfl
theorem F.sc61 : Sl.tyScalar Try.prog 61 = true := by kernel_rfl
theorem F.ni61 : (match Try.prog.underlying 61 with | some (.interface _) | none => false | _ => true) = true := by kernel_rfl
theorem F.tb61 : Sl.tyBytes Try.prog 61 8 = true := by kernel_rfl
theorem F.z61 : (match Try.prog.info? 61 with | some i => i.zero | none => none) = some (.nilFunc) := by kernel_rfl
theorem F.ts62 : (Try.prog.underlying 62).isSome = true := by kernel_rfl
theorem F.sz62 : (match Try.prog.info? 62 with | some i => i.size == 3 | none => false) = true := by kernel_rfl
theorem F.ag62 : Sl.tyAgg Try.prog 62 3 = true := by kernel_rfl
theorem F.ni62 : (match Try.prog.underlying 62 with | some (.interface _) | none => false | _ => true) = true := by kernel_rfl
theorem F.tb62 : Sl.tyBytes Try.prog 62 24 = true := by kernel_rfl
theorem F.ar62 : Sl.tyArray Try.prog 62 3 3 1 = true := by kernel_rfl
theorem F.z62 : (match Try.prog.info? 62 with | some i => i.zero | none => none) = some (.agg #[.int .i64 (0), .int .i64 (0), .int .i64 (0)]) := by kernel_rfl
theorem F.ts63 : (Try.prog.underlying 63).isSome = true := by kernel_rfl
theorem F.sz63 : (match Try.prog.info? 63 with | some i => i.size == 5 | none => false) = true := by kernel_rfl
theorem F.ag63 : Sl.tyAgg Try.prog 63 5 = true := by kernel_rfl
theorem F.ni63 : (match Try.prog.underlying 63 with | some (.interface _) | none => false | _ => true) = true := by kernel_rfl
theorem F.fld63_0 : Sl.tyField Try.prog 63 0 0 = true := by kernel_rfl
theorem F.fs63_0 : Sl.tyFieldAt Try.prog 63 0 0 0 false = true := by kernel_rfl
theorem F.fld63_1 : Sl.tyField Try.prog 63 1 1 = true := by kernel_rfl
theorem F.fs63_1 : Sl.tyFieldAt Try.prog 63 1 1 0 false = true := by kernel_rfl
theorem F.fld63_2 : Sl.tyField Try.prog 63 2 2 = true := by kernel_rfl
theorem F.fa63_2 : Sl.tyFieldAt Try.prog 63 2 2 3 true = true := by kernel_rfl
theorem F.tb63 : Sl.tyBytes Try.prog 63 56 = true := by kernel_rfl
theorem F.pl63 : Sl.tyPlaces Try.prog 63 = some ([(0, 1), (1, 1), (2, 3)], .agg #[.int .i64 (0), .slice none 0 0, .int .i64 (0), .int .i64 (0), .int .i64 (0)]) := by kernel_rfl
theorem F.z63 : (match Try.prog.info? 63 with | some i => i.zero | none => none) = some (.agg #[.int .i64 (0), .slice none 0 0, .int .i64 (0), .int .i64 (0), .int .i64 (0)]) := by kernel_rfl
theorem F.ts64 : (Try.prog.underlying 64).isSome = true := by kernel_rfl
theorem F.sz64 : (match Try.prog.info? 64 with | some i => i.size == 5 | none => false) = true := by kernel_rfl
theorem F.ag64 : Sl.tyAgg Try.prog 64 5 = true := by kernel_rfl
theorem F.ni64 : (match Try.prog.underlying 64 with | some (.interface _) | none => false | _ => true) = true := by kernel_rfl
theorem F.fld64_0 : Sl.tyField Try.prog 64 0 0 = true := by kernel_rfl
theorem F.fs64_0 : Sl.tyFieldAt Try.prog 64 0 0 0 false = true := by kernel_rfl
theorem F.fld64_1 : Sl.tyField Try.prog 64 1 1 = true := by kernel_rfl
theorem F.fs64_1 : Sl.tyFieldAt Try.prog 64 1 1 0 false = true := by kernel_rfl
theorem F.fld64_2 : Sl.tyField Try.prog 64 2 2 = true := by kernel_rfl
theorem F.fa64_2 : Sl.tyFieldAt Try.prog 64 2 2 3 true = true := by kernel_rfl
theorem F.tb64 : Sl.tyBytes Try.prog 64 56 = true := by kernel_rfl
theorem F.pl64 : Sl.tyPlaces Try.prog 64 = some ([(0, 1), (1, 1), (2, 3)], .agg #[.int .i64 (0), .slice none 0 0, .int .i64 (0), .int .i64 (0), .int .i64 (0)]) := by kernel_rfl
theorem F.z64 : (match Try.prog.info? 64 with | some i => i.zero | none => none) = some (.agg #[.int .i64 (0), .slice none 0 0, .int .i64 (0), .int .i64 (0), .int .i64 (0)]) := by kernel_rfl
theorem F.ts65 : (Try.prog.underlying 65).isSome = true := by kernel_rfl
theorem F.sz65 : (match Try.prog.info? 65 with | some i => i.size == 1 | none => false) = true := by kernel_rfl
theorem F.sc65 : Sl.tyScalar Try.prog 65 = true := by kernel_rfl
theorem F.ni65 : (match Try.prog.underlying 65 with | some (.interface _) | none => false | _ => true) = true := by kernel_rfl
theorem F.tb65 : Sl.tyBytes Try.prog 65 8 = true := by kernel_rfl
theorem F.z65 : (match Try.prog.info? 65 with | some i => i.zero | none => none) = some (.nilFunc) := by kernel_rfl
theorem F.ts66 : (Try.prog.underlying 66).isSome = true := by kernel_rfl
theorem F.sz66 : (match Try.prog.info? 66 with | some i => i.size == 1 | none => false) = true := by kernel_rfl
theorem F.sc66 : Sl.tyScalar Try.prog 66 = true := by kernel_rfl
theorem F.ni66 : (match Try.prog.underlying 66 with | some (.interface _) | none => false | _ => true) = true := by kernel_rfl
theorem F.tb66 : Sl.tyBytes Try.prog 66 8 = true := by kernel_rfl
theorem F.z66 : (match Try.prog.info? 66 with | some i => i.zero | none => none) = some (.nilFunc) := by kernel_rfl
theorem F.ts67 : (Try.prog.underlying 67).isSome = true := by kernel_rfl
theorem F.sz67 : (match Try.prog.info? 67 with | some i => i.size == 1 | none => false) = true := by kernel_rfl
theorem F.sc67 : Sl.tyScalar Try.prog 67 = true := by kernel_rfl
theorem F.ni67 : (match Try.prog.underlying 67 with | some (.interface _) | none => false | _ => true) = true := by kernel_rfl
theorem F.tb67 : Sl.tyBytes Try.prog 67 8 = true := by kernel_rfl
theorem F.z67 : (match Try.prog.info? 67 with | some i => i.zero | none => none) = some (.nilFunc) := by kernel_rfl
theorem F.ts68 : (Try.prog.underlying 68).isSome = true := by kernel_rfl
theorem F.sz68 : (match Try.prog.info? 68 with | some i => i.size == 1 | none => false) = true := by kernel_rfl
theorem F.ag68 : Sl.tyAgg Try.prog 68 1 = true := by kernel_rfl
theorem F.ni68 : (match Try.prog.underlying 68 with | some (.interface _) | none => false | _ => true) = true := by kernel_rfl
theorem F.fld68_0 : Sl.tyField Try.prog 68 0 0 = true := by kernel_rfl
theorem F.fs68_0 : Sl.tyFieldAt Try.prog 68 0 0 0 false = true := by kernel_rfl
theorem F.tb68 : Sl.tyBytes Try.prog 68 24 = true := by kernel_rfl
theorem F.pl68 : Sl.tyPlaces Try.prog 68 = some ([(0, 1)], .agg #[.slice none 0 0]) := by kernel_rfl
theorem F.z68 : (match Try.prog.info? 68 with | some i => i.zero | none => none) = some (.agg #[.slice none 0 0]) := by kernel_rfl
theorem F.ts69 : (Try.prog.underlying 69).isSome = true := by kernel_rfl
theorem F.sz69 : (match Try.prog.info? 69 with | some i => i.size == 1 | none => false) = true := by kernel_rfl
theorem F.ag69 : Sl.tyAgg Try.prog 69 1 = true := by kernel_rfl
theorem F.ni69 : (match Try.prog.underlying 69 with | some (.interface _) | none => false | _ => true) = true := by kernel_rfl
theorem F.fld69_0 : Sl.tyField Try.prog 69 0 0 = true := by kernel_rfl
theorem F.fs69_0 : Sl.tyFieldAt Try.prog 69 0 0 0 false = true := by kernel_rfl
theorem F.tb69 : Sl.tyBytes Try.prog 69 24 = true := by kernel_rfl
theorem F.pl69 : Sl.tyPlaces Try.prog 69 = some ([(0, 1)], .agg #[.slice none 0 0]) := by kernel_rfl
theorem F.z69 : (match Try.prog.info? 69 with | some i => i.zero | none => none) = some (.agg #[.slice none 0 0]) := by kernel_rfl
theorem F.ts70 : (Try.prog.underlying 70).isSome = true := by kernel_rfl
theorem F.sz70 : (match Try.prog.info? 70 with | some i => i.size == 1 | none => false) = true := by kernel_rfl
theorem F.sc70 : Sl.tyScalar Try.prog 70 = true := by kernel_rfl
theorem F.ni70 : (match Try.prog.underlying 70 with | some (.interface _) | none => false | _ => true) = true := by kernel_rfl
theorem F.pt70 : Sl.tyPtr Try.prog 70 = true := by kernel_rfl
theorem F.tb70 : Sl.tyBytes Try.prog 70 8 = true := by kernel_rfl
theorem F.z70 : (match Try.prog.info? 70 with | some i => i.zero | none => none) = some (.pointer none) := by kernel_rfl
theorem F.ts71 : (Try.prog.underlying 71).isSome = true := by kernel_rfl
theorem F.sz71 : (match Try.prog.info? 71 with | some i => i.size == 1 | none => false) = true := by kernel_rfl
theorem F.sc71 : Sl.tyScalar Try.prog 71 = true := by kernel_rfl
theorem F.ni71 : (match Try.prog.underlying 71 with | some (.interface _) | none => false | _ => true) = true := by kernel_rfl
theorem F.tb71 : Sl.tyBytes Try.prog 71 8 = true := by kernel_rfl
theorem F.z71 : (match Try.prog.info? 71 with | some i => i.zero | none => none) = some (.nilFunc) := by kernel_rfl
theorem F.ts72 : (Try.prog.underlying 72).isSome = true := by kernel_rfl
theorem F.sz72 : (match Try.prog.info? 72 with | some i => i.size == 1 | none => false) = true := by kernel_rfl
theorem F.sc72 : Sl.tyScalar Try.prog 72 = true := by kernel_rfl
theorem F.ni72 : (match Try.prog.underlying 72 with | some (.interface _) | none => false | _ => true) = true := by kernel_rfl
theorem F.tb72 : Sl.tyBytes Try.prog 72 8 = true := by kernel_rfl
theorem F.in72 : Sl.tyInt Try.prog 72 .u64 = true := by kernel_rfl
theorem F.z72 : (match Try.prog.info? 72 with | some i => i.zero | none => none) = some (.int .u64 (0)) := by kernel_rfl
theorem F.ts73 : (Try.prog.underlying 73).isSome = true := by kernel_rfl
theorem F.sz73 : (match Try.prog.info? 73 with | some i => i.size == 1 | none => false) = true := by kernel_rfl
theorem F.sc73 : Sl.tyScalar Try.prog 73 = true := by kernel_rfl
theorem F.ni73 : (match Try.prog.underlying 73 with | some (.interface _) | none => false | _ => true) = true := by kernel_rfl
theorem F.tb73 : Sl.tyBytes Try.prog 73 8 = true := by kernel_rfl
theorem F.z73 : (match Try.prog.info? 73 with | some i => i.zero | none => none) = some (.nilFunc) := by kernel_rfl
theorem F.ts74 : (Try.prog.underlying 74).isSome = true := by kernel_rfl
theorem F.sz74 : (match Try.prog.info? 74 with | some i => i.size == 1 | none => false) = true := by kernel_rfl
theorem F.sc74 : Sl.tyScalar Try.prog 74 = true := by kernel_rfl
theorem F.ni74 : (match Try.prog.underlying 74 with | some (.interface _) | none => false | _ => true) = true := by kernel_rfl
theorem F.tb74 : Sl.tyBytes Try.prog 74 8 = true := by kernel_rfl
theorem F.z74 : (match Try.prog.info? 74 with | some i => i.zero | none => none) = some (.nilFunc) := by kernel_rfl
theorem F.ts75 : (Try.prog.underlying 75).isSome = true := by kernel_rfl
theorem F.sz75 : (match Try.prog.info? 75 with | some i => i.size == 1 | none => false) = true := by kernel_rfl
theorem F.sc75 : Sl.tyScalar Try.prog 75 = true := by kernel_rfl
theorem F.ni75 : (match Try.prog.underlying 75 with | some (.interface _) | none => false | _ => true) = true := by kernel_rfl
theorem F.tb75 : Sl.tyBytes Try.prog 75 8 = true := by kernel_rfl
theorem F.z75 : (match Try.prog.info? 75 with | some i => i.zero | none => none) = some (.nilFunc) := by kernel_rfl
theorem F.ts76 : (Try.prog.underlying 76).isSome = true := by kernel_rfl
theorem F.sz76 : (match Try.prog.info? 76 with | some i => i.size == 1 | none => false) = true := by kernel_rfl
theorem F.sc76 : Sl.tyScalar Try.prog 76 = true := by kernel_rfl
theorem F.ni76 : (match Try.prog.underlying 76 with | some (.interface _) | none => false | _ => true) = true := by kernel_rfl
theorem F.tb76 : Sl.tyBytes Try.prog 76 8 = true := by kernel_rfl
theorem F.z76 : (match Try.prog.info? 76 with | some i => i.zero | none => none) = some (.nilFunc) := by kernel_rfl
theorem F.ts77 : (Try.prog.underlying 77).isSome = true := by kernel_rfl
theorem F.sz77 : (match Try.prog.info? 77 with | some i => i.size == 1 | none => false) = true := by kernel_rfl
theorem F.sc77 : Sl.tyScalar Try.prog 77 = true := by kernel_rfl
theorem F.ni77 : (match Try.prog.underlying 77 with | some (.interface _) | none => false | _ => true) = true := by kernel_rfl
theorem F.tb77 : Sl.tyBytes Try.prog 77 8 = true := by kernel_rfl
theorem F.z77 : (match Try.prog.info? 77 with | some i => i.zero | none => none) = some (.nilFunc) := by kernel_rfl
theorem F.ts78 : (Try.prog.underlying 78).isSome = true := by kernel_rfl
theorem F.sz78 : (match Try.prog.info? 78 with | some i => i.size == 1 | none => false) = true := by kernel_rfl
theorem F.sc78 : Sl.tyScalar Try.prog 78 = true := by kernel_rfl
theorem F.ni78 : (match Try.prog.underlying 78 with | some (.interface _) | none => false | _ => true) = true := by kernel_rfl
theorem F.pt78 : Sl.tyPtr Try.prog 78 = true := by kernel_rfl
theorem F.tb78 : Sl.tyBytes Try.prog 78 8 = true := by kernel_rfl
theorem F.z78 : (match Try.prog.info? 78 with | some i => i.zero | none => none) = some (.pointer none) := by kernel_rfl
theorem F.ts79 : (Try.prog.underlying 79).isSome = true := by kernel_rfl
theorem F.sz79 : (match Try.prog.info? 79 with | some i => i.size == 1 | none => false) = true := by kernel_rfl
theorem F.sc79 : Sl.tyScalar Try.prog 79 = true := by kernel_rfl
theorem F.ni79 : (match Try.prog.underlying 79 with | some (.interface _) | none => false | _ => true) = true := by kernel_rfl
theorem F.pt79 : Sl.tyPtr Try.prog 79 = true := by kernel_rfl
theorem F.tb79 : Sl.tyBytes Try.prog 79 8 = true := by kernel_rfl
theorem F.z79 : (match Try.prog.info? 79 with | some i => i.zero | none => none) = some (.pointer none) := by kernel_rfl
theorem F.ts80 : (Try.prog.underlying 80).isSome = true := by kernel_rfl
theorem F.sz80 : (match Try.prog.info? 80 with | some i => i.size == 1 | none => false) = true := by kernel_rfl
theorem F.sc80 : Sl.tyScalar Try.prog 80 = true := by kernel_rfl
theorem F.ni80 : (match Try.prog.underlying 80 with | some (.interface _) | none => false | _ => true) = true := by kernel_rfl
theorem F.tb80 : Sl.tyBytes Try.prog 80 8 = true := by kernel_rfl
theorem F.z80 : (match Try.prog.info? 80 with | some i => i.zero | none => none) = some (.nilFunc) := by kernel_rfl
theorem F.ts81 : (Try.prog.underlying 81).isSome = true := by kernel_rfl
theorem F.sz81 : (match Try.prog.info? 81 with | some i => i.size == 1 | none => false) = true := by kernel_rfl
theorem F.sc81 : Sl.tyScalar Try.prog 81 = true := by kernel_rfl
theorem F.ni81 : (match Try.prog.underlying 81 with | some (.interface _) | none => false | _ => true) = true := by kernel_rfl
theorem F.tb81 : Sl.tyBytes Try.prog 81 8 = true := by kernel_rfl
theorem F.z81 : (match Try.prog.info? 81 with | some i => i.zero | none => none) = some (.nilFunc) := by kernel_rfl
theorem F.ts82 : (Try.prog.underlying 82).isSome = true := by kernel_rfl
theorem F.sz82 : (match Try.prog.info? 82 with | some i => i.size == 1 | none => false) = true := by kernel_rfl
theorem F.sc82 : Sl.tyScalar Try.prog 82 = true := by kernel_rfl
theorem F.ni82 : (match Try.prog.underlying 82 with | some (.interface _) | none => false | _ => true) = true := by kernel_rfl
theorem F.tb82 : Sl.tyBytes Try.prog 82 8 = true := by kernel_rfl
theorem F.z82 : (match Try.prog.info? 82 with | some i => i.zero | none => none) = some (.nilFunc) := by kernel_rfl
theorem F.ts83 : (Try.prog.underlying 83).isSome = true := by kernel_rfl
theorem F.sz83 : (match Try.prog.info? 83 with | some i => i.size == 1 | none => false) = true := by kernel_rfl
theorem F.sc83 : Sl.tyScalar Try.prog 83 = true := by kernel_rfl
theorem F.ni83 : (match Try.prog.underlying 83 with | some (.interface _) | none => false | _ => true) = true := by kernel_rfl
theorem F.tb83 : Sl.tyBytes Try.prog 83 8 = true := by kernel_rfl
theorem F.z83 : (match Try.prog.info? 83 with | some i => i.zero | none => none) = some (.nilFunc) := by kernel_rfl
theorem F.ts84 : (Try.prog.underlying 84).isSome = true := by kernel_rfl
theorem F.sz84 : (match Try.prog.info? 84 with | some i => i.size == 1 | none => false) = true := by kernel_rfl
theorem F.sc84 : Sl.tyScalar Try.prog 84 = true := by kernel_rfl
theorem F.ni84 : (match Try.prog.underlying 84 with | some (.interface _) | none => false | _ => true) = true := by kernel_rfl
theorem F.tb84 : Sl.tyBytes Try.prog 84 8 = true := by kernel_rfl
theorem F.z84 : (match Try.prog.info? 84 with | some i => i.zero | none => none) = some (.nilFunc) := by kernel_rfl
theorem F.ts85 : (Try.prog.underlying 85).isSome = true := by kernel_rfl
theorem F.sz85 : (match Try.prog.info? 85 with | some i => i.size == 1 | none => false) = true := by kernel_rfl
theorem F.ag85 : Sl.tyAgg Try.prog 85 1 = true := by kernel_rfl
theorem F.ni85 : (match Try.prog.underlying 85 with | some (.interface _) | none => false | _ => true) = true := by kernel_rfl
theorem F.fld85_0 : Sl.tyField Try.prog 85 0 0 = true := by kernel_rfl
theorem F.fs85_0 : Sl.tyFieldAt Try.prog 85 0 0 0 false = true := by kernel_rfl
theorem F.tb85 : Sl.tyBytes Try.prog 85 16 = true := by kernel_rfl
theorem F.pl85 : Sl.tyPlaces Try.prog 85 = some ([(0, 1)], .agg #[.string ByteArray.empty]) := by kernel_rfl
theorem F.z85 : (match Try.prog.info? 85 with | some i => i.zero | none => none) = some (.agg #[.string ByteArray.empty]) := by kernel_rfl
theorem F.ts86 : (Try.prog.underlying 86).isSome = true := by kernel_rfl
theorem F.sz86 : (match Try.prog.info? 86 with | some i => i.size == 1 | none => false) = true := by kernel_rfl
theorem F.ag86 : Sl.tyAgg Try.prog 86 1 = true := by kernel_rfl
theorem F.ni86 : (match Try.prog.underlying 86 with | some (.interface _) | none => false | _ => true) = true := by kernel_rfl
theorem F.fld86_0 : Sl.tyField Try.prog 86 0 0 = true := by kernel_rfl
theorem F.fs86_0 : Sl.tyFieldAt Try.prog 86 0 0 0 false = true := by kernel_rfl
theorem F.fk86 : Sl.tyKinds Try.prog 86 = some [1] := by kernel_rfl
theorem F.tb86 : Sl.tyBytes Try.prog 86 16 = true := by kernel_rfl
theorem F.pl86 : Sl.tyPlaces Try.prog 86 = some ([(0, 1)], .agg #[.string ByteArray.empty]) := by kernel_rfl
theorem F.z86 : (match Try.prog.info? 86 with | some i => i.zero | none => none) = some (.agg #[.string ByteArray.empty]) := by kernel_rfl
theorem F.ts87 : (Try.prog.underlying 87).isSome = true := by kernel_rfl
theorem F.sz87 : (match Try.prog.info? 87 with | some i => i.size == 1 | none => false) = true := by kernel_rfl
theorem F.ag87 : Sl.tyAgg Try.prog 87 1 = true := by kernel_rfl
theorem F.ni87 : (match Try.prog.underlying 87 with | some (.interface _) | none => false | _ => true) = true := by kernel_rfl
theorem F.fld87_0 : Sl.tyField Try.prog 87 0 0 = true := by kernel_rfl
theorem F.fs87_0 : Sl.tyFieldAt Try.prog 87 0 0 0 false = true := by kernel_rfl
theorem F.tb87 : Sl.tyBytes Try.prog 87 8 = true := by kernel_rfl
theorem F.pl87 : Sl.tyPlaces Try.prog 87 = some ([(0, 1)], .agg #[.int .i64 (0)]) := by kernel_rfl
theorem F.z87 : (match Try.prog.info? 87 with | some i => i.zero | none => none) = some (.agg #[.int .i64 (0)]) := by kernel_rfl
theorem F.ts88 : (Try.prog.underlying 88).isSome = true := by kernel_rfl
theorem F.sz88 : (match Try.prog.info? 88 with | some i => i.size == 1 | none => false) = true := by kernel_rfl
theorem F.ag88 : Sl.tyAgg Try.prog 88 1 = true := by kernel_rfl
theorem F.ni88 : (match Try.prog.underlying 88 with | some (.interface _) | none => false | _ => true) = true := by kernel_rfl
theorem F.fld88_0 : Sl.tyField Try.prog 88 0 0 = true := by kernel_rfl
theorem F.fs88_0 : Sl.tyFieldAt Try.prog 88 0 0 0 false = true := by kernel_rfl
theorem F.fk88 : Sl.tyKinds Try.prog 88 = some [0] := by kernel_rfl
theorem F.tb88 : Sl.tyBytes Try.prog 88 8 = true := by kernel_rfl
theorem F.pl88 : Sl.tyPlaces Try.prog 88 = some ([(0, 1)], .agg #[.int .i64 (0)]) := by kernel_rfl
theorem F.z88 : (match Try.prog.info? 88 with | some i => i.zero | none => none) = some (.agg #[.int .i64 (0)]) := by kernel_rfl
theorem F.ts90 : (Try.prog.underlying 90).isSome = true := by kernel_rfl
theorem F.sz90 : (match Try.prog.info? 90 with | some i => i.size == 4 | none => false) = true := by kernel_rfl
theorem F.ag90 : Sl.tyAgg Try.prog 90 4 = true := by kernel_rfl
theorem F.ni90 : (match Try.prog.underlying 90 with | some (.interface _) | none => false | _ => true) = true := by kernel_rfl
theorem F.fld90_0 : Sl.tyField Try.prog 90 0 0 = true := by kernel_rfl
theorem F.fs90_0 : Sl.tyFieldAt Try.prog 90 0 0 0 false = true := by kernel_rfl
theorem F.fld90_1 : Sl.tyField Try.prog 90 1 1 = true := by kernel_rfl
theorem F.fs90_1 : Sl.tyFieldAt Try.prog 90 1 1 0 false = true := by kernel_rfl
theorem F.fld90_2 : Sl.tyField Try.prog 90 2 2 = true := by kernel_rfl
theorem F.fs90_2 : Sl.tyFieldAt Try.prog 90 2 2 0 false = true := by kernel_rfl
theorem F.fld90_3 : Sl.tyField Try.prog 90 3 3 = true := by kernel_rfl
theorem F.fs90_3 : Sl.tyFieldAt Try.prog 90 3 3 0 false = true := by kernel_rfl
theorem F.tb90 : Sl.tyBytes Try.prog 90 40 = true := by kernel_rfl
theorem F.pl90 : Sl.tyPlaces Try.prog 90 = some ([(0, 1), (1, 1), (2, 1), (3, 1)], .agg #[.pointer none, .pointer none, .pointer none, .string ByteArray.empty]) := by kernel_rfl
theorem F.z90 : (match Try.prog.info? 90 with | some i => i.zero | none => none) = some (.agg #[.pointer none, .pointer none, .pointer none, .string ByteArray.empty]) := by kernel_rfl
theorem F.ts91 : (Try.prog.underlying 91).isSome = true := by kernel_rfl
theorem F.sz91 : (match Try.prog.info? 91 with | some i => i.size == 4 | none => false) = true := by kernel_rfl
theorem F.ag91 : Sl.tyAgg Try.prog 91 4 = true := by kernel_rfl
theorem F.ni91 : (match Try.prog.underlying 91 with | some (.interface _) | none => false | _ => true) = true := by kernel_rfl
theorem F.fld91_0 : Sl.tyField Try.prog 91 0 0 = true := by kernel_rfl
theorem F.fs91_0 : Sl.tyFieldAt Try.prog 91 0 0 0 false = true := by kernel_rfl
theorem F.fld91_1 : Sl.tyField Try.prog 91 1 1 = true := by kernel_rfl
theorem F.fs91_1 : Sl.tyFieldAt Try.prog 91 1 1 0 false = true := by kernel_rfl
theorem F.fld91_2 : Sl.tyField Try.prog 91 2 2 = true := by kernel_rfl
theorem F.fs91_2 : Sl.tyFieldAt Try.prog 91 2 2 0 false = true := by kernel_rfl
theorem F.fld91_3 : Sl.tyField Try.prog 91 3 3 = true := by kernel_rfl
theorem F.fs91_3 : Sl.tyFieldAt Try.prog 91 3 3 0 false = true := by kernel_rfl
theorem F.tb91 : Sl.tyBytes Try.prog 91 40 = true := by kernel_rfl
theorem F.pl91 : Sl.tyPlaces Try.prog 91 = some ([(0, 1), (1, 1), (2, 1), (3, 1)], .agg #[.pointer none, .pointer none, .pointer none, .string ByteArray.empty]) := by kernel_rfl
theorem F.z91 : (match Try.prog.info? 91 with | some i => i.zero | none => none) = some (.agg #[.pointer none, .pointer none, .pointer none, .string ByteArray.empty]) := by kernel_rfl
theorem F.ts92 : (Try.prog.underlying 92).isSome = true := by kernel_rfl
theorem F.sz92 : (match Try.prog.info? 92 with | some i => i.size == 0 | none => false) = true := by kernel_rfl
theorem F.ag92 : Sl.tyAgg Try.prog 92 0 = true := by kernel_rfl
theorem F.ni92 : (match Try.prog.underlying 92 with | some (.interface _) | none => false | _ => true) = true := by kernel_rfl
theorem F.tb92 : Sl.tyBytes Try.prog 92 0 = true := by kernel_rfl
theorem F.ar92 : Sl.tyArray Try.prog 92 0 16 1 = true := by kernel_rfl
theorem F.z92 : (match Try.prog.info? 92 with | some i => i.zero | none => none) = some (.agg #[]) := by kernel_rfl
theorem F.ts93 : (Try.prog.underlying 93).isSome = true := by kernel_rfl
theorem F.sz93 : (match Try.prog.info? 93 with | some i => i.size == 0 | none => false) = true := by kernel_rfl
theorem F.ag93 : Sl.tyAgg Try.prog 93 0 = true := by kernel_rfl
theorem F.ni93 : (match Try.prog.underlying 93 with | some (.interface _) | none => false | _ => true) = true := by kernel_rfl
theorem F.fa93_0 : Sl.tyFieldAt Try.prog 93 0 0 0 true = true := by kernel_rfl
theorem F.tb93 : Sl.tyBytes Try.prog 93 0 = true := by kernel_rfl
theorem F.pl93 : Sl.tyPlaces Try.prog 93 = some ([(0, 0)], .agg #[]) := by kernel_rfl
theorem F.z93 : (match Try.prog.info? 93 with | some i => i.zero | none => none) = some (.agg #[]) := by kernel_rfl
theorem F.ts94 : (Try.prog.underlying 94).isSome = true := by kernel_rfl
theorem F.sz94 : (match Try.prog.info? 94 with | some i => i.size == 0 | none => false) = true := by kernel_rfl
theorem F.ag94 : Sl.tyAgg Try.prog 94 0 = true := by kernel_rfl
theorem F.ni94 : (match Try.prog.underlying 94 with | some (.interface _) | none => false | _ => true) = true := by kernel_rfl
theorem F.fa94_0 : Sl.tyFieldAt Try.prog 94 0 0 0 true = true := by kernel_rfl
theorem F.tb94 : Sl.tyBytes Try.prog 94 0 = true := by kernel_rfl
theorem F.pl94 : Sl.tyPlaces Try.prog 94 = some ([(0, 0)], .agg #[]) := by kernel_rfl
theorem F.z94 : (match Try.prog.info? 94 with | some i => i.zero | none => none) = some (.agg #[]) := by kernel_rfl
theorem F.ts95 : (Try.prog.underlying 95).isSome = true := by kernel_rfl
theorem F.sz95 : (match Try.prog.info? 95 with | some i => i.size == 1 | none => false) = true := by kernel_rfl
theorem F.sc95 : Sl.tyScalar Try.prog 95 = true := by kernel_rfl
theorem F.ni95 : (match Try.prog.underlying 95 with | some (.interface _) | none => false | _ => true) = true := by kernel_rfl
theorem F.by95 : Sl.tyBy Try.prog 95 = true := by kernel_rfl
theorem F.tb95 : Sl.tyBytes Try.prog 95 1 = true := by kernel_rfl
theorem F.in95 : Sl.tyInt Try.prog 95 .u8 = true := by kernel_rfl
theorem F.z95 : (match Try.prog.info? 95 with | some i => i.zero | none => none) = some (.int .u8 (0)) := by kernel_rfl
theorem F.ts96 : (Try.prog.underlying 96).isSome = true := by kernel_rfl
theorem F.sz96 : (match Try.prog.info? 96 with | some i => i.size == 1 | none => false) = true := by kernel_rfl
theorem F.sc96 : Sl.tyScalar Try.prog 96 = true := by kernel_rfl
theorem F.ni96 : (match Try.prog.underlying 96 with | some (.interface _) | none => false | _ => true) = true := by kernel_rfl
theorem F.by96 : Sl.tyBy Try.prog 96 = true := by kernel_rfl
theorem F.tb96 : Sl.tyBytes Try.prog 96 1 = true := by kernel_rfl
theorem F.in96 : Sl.tyInt Try.prog 96 .u8 = true := by kernel_rfl
theorem F.z96 : (match Try.prog.info? 96 with | some i => i.zero | none => none) = some (.int .u8 (0)) := by kernel_rfl
theorem F.ts97 : (Try.prog.underlying 97).isSome = true := by kernel_rfl
theorem F.sz97 : (match Try.prog.info? 97 with | some i => i.size == 1 | none => false) = true := by kernel_rfl
theorem F.sc97 : Sl.tyScalar Try.prog 97 = true := by kernel_rfl
theorem F.ni97 : (match Try.prog.underlying 97 with | some (.interface _) | none => false | _ => true) = true := by kernel_rfl
theorem F.tb97 : Sl.tyBytes Try.prog 97 8 = true := by kernel_rfl
theorem F.z97 : (match Try.prog.info? 97 with | some i => i.zero | none => none) = some (.nilFunc) := by kernel_rfl
theorem F.ts98 : (Try.prog.underlying 98).isSome = true := by kernel_rfl
theorem F.sz98 : (match Try.prog.info? 98 with | some i => i.size == 1 | none => false) = true := by kernel_rfl
theorem F.sc98 : Sl.tyScalar Try.prog 98 = true := by kernel_rfl
theorem F.ni98 : (match Try.prog.underlying 98 with | some (.interface _) | none => false | _ => true) = true := by kernel_rfl
theorem F.pt98 : Sl.tyPtr Try.prog 98 = true := by kernel_rfl
theorem F.tb98 : Sl.tyBytes Try.prog 98 8 = true := by kernel_rfl
theorem F.z98 : (match Try.prog.info? 98 with | some i => i.zero | none => none) = some (.pointer none) := by kernel_rfl
theorem F.ts99 : (Try.prog.underlying 99).isSome = true := by kernel_rfl
theorem F.sz99 : (match Try.prog.info? 99 with | some i => i.size == 1 | none => false) = true := by kernel_rfl
theorem F.sc99 : Sl.tyScalar Try.prog 99 = true := by kernel_rfl
theorem F.ni99 : (match Try.prog.underlying 99 with | some (.interface _) | none => false | _ => true) = true := by kernel_rfl
theorem F.tb99 : Sl.tyBytes Try.prog 99 4 = true := by kernel_rfl
theorem F.in99 : Sl.tyInt Try.prog 99 .i32 = true := by kernel_rfl
theorem F.z99 : (match Try.prog.info? 99 with | some i => i.zero | none => none) = some (.int .i32 (0)) := by kernel_rfl
theorem F.ts100 : (Try.prog.underlying 100).isSome = true := by kernel_rfl
theorem F.sz100 : (match Try.prog.info? 100 with | some i => i.size == 1 | none => false) = true := by kernel_rfl
theorem F.sc100 : Sl.tyScalar Try.prog 100 = true := by kernel_rfl
theorem F.ni100 : (match Try.prog.underlying 100 with | some (.interface _) | none => false | _ => true) = true := by kernel_rfl
theorem F.tb100 : Sl.tyBytes Try.prog 100 4 = true := by kernel_rfl
theorem F.in100 : Sl.tyInt Try.prog 100 .i32 = true := by kernel_rfl
theorem F.z100 : (match Try.prog.info? 100 with | some i => i.zero | none => none) = some (.int .i32 (0)) := by kernel_rfl
theorem F.ts101 : (Try.prog.underlying 101).isSome = true := by kernel_rfl
theorem F.sz101 : (match Try.prog.info? 101 with | some i => i.size == 11 | none => false) = true := by kernel_rfl
theorem F.ag101 : Sl.tyAgg Try.prog 101 11 = true := by kernel_rfl
theorem F.ni101 : (match Try.prog.underlying 101 with | some (.interface _) | none => false | _ => true) = true := by kernel_rfl
theorem F.fld101_0 : Sl.tyField Try.prog 101 0 0 = true := by kernel_rfl
theorem F.fs101_0 : Sl.tyFieldAt Try.prog 101 0 0 0 false = true := by kernel_rfl
theorem F.fld101_1 : Sl.tyField Try.prog 101 1 1 = true := by kernel_rfl
theorem F.fs101_1 : Sl.tyFieldAt Try.prog 101 1 1 0 false = true := by kernel_rfl
theorem F.fld101_2 : Sl.tyField Try.prog 101 2 2 = true := by kernel_rfl
theorem F.fs101_2 : Sl.tyFieldAt Try.prog 101 2 2 0 false = true := by kernel_rfl
theorem F.fld101_3 : Sl.tyField Try.prog 101 3 3 = true := by kernel_rfl
theorem F.fs101_3 : Sl.tyFieldAt Try.prog 101 3 3 0 false = true := by kernel_rfl
theorem F.fld101_4 : Sl.tyField Try.prog 101 4 4 = true := by kernel_rfl
theorem F.fs101_4 : Sl.tyFieldAt Try.prog 101 4 4 0 false = true := by kernel_rfl
theorem F.fld101_5 : Sl.tyField Try.prog 101 5 5 = true := by kernel_rfl
theorem F.fs101_5 : Sl.tyFieldAt Try.prog 101 5 5 0 false = true := by kernel_rfl
theorem F.fld101_6 : Sl.tyField Try.prog 101 6 6 = true := by kernel_rfl
theorem F.fs101_6 : Sl.tyFieldAt Try.prog 101 6 6 0 false = true := by kernel_rfl
theorem F.fld101_7 : Sl.tyField Try.prog 101 7 7 = true := by kernel_rfl
theorem F.fs101_7 : Sl.tyFieldAt Try.prog 101 7 7 0 false = true := by kernel_rfl
theorem F.fld101_8 : Sl.tyField Try.prog 101 8 8 = true := by kernel_rfl
theorem F.fs101_8 : Sl.tyFieldAt Try.prog 101 8 8 0 false = true := by kernel_rfl
theorem F.fld101_9 : Sl.tyField Try.prog 101 9 9 = true := by kernel_rfl
theorem F.fs101_9 : Sl.tyFieldAt Try.prog 101 9 9 0 false = true := by kernel_rfl
theorem F.fld101_10 : Sl.tyField Try.prog 101 10 10 = true := by kernel_rfl
theorem F.fs101_10 : Sl.tyFieldAt Try.prog 101 10 10 0 false = true := by kernel_rfl
theorem F.tb101 : Sl.tyBytes Try.prog 101 48 = true := by kernel_rfl
theorem F.pl101 : Sl.tyPlaces Try.prog 101 = some ([(0, 1), (1, 1), (2, 1), (3, 1), (4, 1), (5, 1), (6, 1), (7, 1), (8, 1), (9, 1), (10, 1)], .agg #[.int .u64 (0), .int .u64 (0), .int .u32 (0), .int .u8 (0), .int .u8 (0), .int .u8 (0), .int .u8 (0), .nilFunc, .pointer none, .int .i32 (0), .int .i32 (0)]) := by kernel_rfl
theorem F.z101 : (match Try.prog.info? 101 with | some i => i.zero | none => none) = some (.agg #[.int .u64 (0), .int .u64 (0), .int .u32 (0), .int .u8 (0), .int .u8 (0), .int .u8 (0), .int .u8 (0), .nilFunc, .pointer none, .int .i32 (0), .int .i32 (0)]) := by kernel_rfl
theorem F.ts102 : (Try.prog.underlying 102).isSome = true := by kernel_rfl
theorem F.sz102 : (match Try.prog.info? 102 with | some i => i.size == 11 | none => false) = true := by kernel_rfl
theorem F.ag102 : Sl.tyAgg Try.prog 102 11 = true := by kernel_rfl
theorem F.ni102 : (match Try.prog.underlying 102 with | some (.interface _) | none => false | _ => true) = true := by kernel_rfl
theorem F.fld102_0 : Sl.tyField Try.prog 102 0 0 = true := by kernel_rfl
theorem F.fs102_0 : Sl.tyFieldAt Try.prog 102 0 0 0 false = true := by kernel_rfl
theorem F.fld102_1 : Sl.tyField Try.prog 102 1 1 = true := by kernel_rfl
theorem F.fs102_1 : Sl.tyFieldAt Try.prog 102 1 1 0 false = true := by kernel_rfl
theorem F.fld102_2 : Sl.tyField Try.prog 102 2 2 = true := by kernel_rfl
theorem F.fs102_2 : Sl.tyFieldAt Try.prog 102 2 2 0 false = true := by kernel_rfl
theorem F.fld102_3 : Sl.tyField Try.prog 102 3 3 = true := by kernel_rfl
theorem F.fs102_3 : Sl.tyFieldAt Try.prog 102 3 3 0 false = true := by kernel_rfl
theorem F.fld102_4 : Sl.tyField Try.prog 102 4 4 = true := by kernel_rfl
theorem F.fs102_4 : Sl.tyFieldAt Try.prog 102 4 4 0 false = true := by kernel_rfl
theorem F.fld102_5 : Sl.tyField Try.prog 102 5 5 = true := by kernel_rfl
theorem F.fs102_5 : Sl.tyFieldAt Try.prog 102 5 5 0 false = true := by kernel_rfl
theorem F.fld102_6 : Sl.tyField Try.prog 102 6 6 = true := by kernel_rfl
theorem F.fs102_6 : Sl.tyFieldAt Try.prog 102 6 6 0 false = true := by kernel_rfl
theorem F.fld102_7 : Sl.tyField Try.prog 102 7 7 = true := by kernel_rfl
theorem F.fs102_7 : Sl.tyFieldAt Try.prog 102 7 7 0 false = true := by kernel_rfl
theorem F.fld102_8 : Sl.tyField Try.prog 102 8 8 = true := by kernel_rfl
theorem F.fs102_8 : Sl.tyFieldAt Try.prog 102 8 8 0 false = true := by kernel_rfl
theorem F.fld102_9 : Sl.tyField Try.prog 102 9 9 = true := by kernel_rfl
theorem F.fs102_9 : Sl.tyFieldAt Try.prog 102 9 9 0 false = true := by kernel_rfl
theorem F.fld102_10 : Sl.tyField Try.prog 102 10 10 = true := by kernel_rfl
theorem F.fs102_10 : Sl.tyFieldAt Try.prog 102 10 10 0 false = true := by kernel_rfl
theorem F.tb102 : Sl.tyBytes Try.prog 102 48 = true := by kernel_rfl
theorem F.pl102 : Sl.tyPlaces Try.prog 102 = some ([(0, 1), (1, 1), (2, 1), (3, 1), (4, 1), (5, 1), (6, 1), (7, 1), (8, 1), (9, 1), (10, 1)], .agg #[.int .u64 (0), .int .u64 (0), .int .u32 (0), .int .u8 (0), .int .u8 (0), .int .u8 (0), .int .u8 (0), .nilFunc, .pointer none, .int .i32 (0), .int .i32 (0)]) := by kernel_rfl
theorem F.z102 : (match Try.prog.info? 102 with | some i => i.zero | none => none) = some (.agg #[.int .u64 (0), .int .u64 (0), .int .u32 (0), .int .u8 (0), .int .u8 (0), .int .u8 (0), .int .u8 (0), .nilFunc, .pointer none, .int .i32 (0), .int .i32 (0)]) := by kernel_rfl
theorem F.ts103 : (Try.prog.underlying 103).isSome = true := by kernel_rfl
theorem F.sz103 : (match Try.prog.info? 103 with | some i => i.size == 1 | none => false) = true := by kernel_rfl
theorem F.sc103 : Sl.tyScalar Try.prog 103 = true := by kernel_rfl
theorem F.ni103 : (match Try.prog.underlying 103 with | some (.interface _) | none => false | _ => true) = true := by kernel_rfl
theorem F.tb103 : Sl.tyBytes Try.prog 103 8 = true := by kernel_rfl
theorem F.z103 : (match Try.prog.info? 103 with | some i => i.zero | none => none) = some (.pointer none) := by kernel_rfl
theorem F.hb3 : Sl.hasBody Try.prog 3 = true := by kernel_rfl
theorem F.hb4 : Sl.hasBody Try.prog 4 = true := by kernel_rfl
theorem F.hb5 : Sl.hasBody Try.prog 5 = true := by kernel_rfl
theorem F.hb6 : Sl.hasBody Try.prog 6 = true := by kernel_rfl
theorem F.hb7 : Sl.hasBody Try.prog 7 = true := by kernel_rfl
theorem F.hb8 : Sl.hasBody Try.prog 8 = true := by kernel_rfl
theorem F.hb9 : Sl.hasBody Try.prog 9 = true := by kernel_rfl
theorem F.hb10 : Sl.hasBody Try.prog 10 = true := by kernel_rfl
theorem F.hb11 : Sl.hasBody Try.prog 11 = true := by kernel_rfl
theorem F.hb12 : Sl.hasBody Try.prog 12 = true := by kernel_rfl
theorem F.hb13 : Sl.hasBody Try.prog 13 = true := by kernel_rfl
theorem F.hb14 : Sl.hasBody Try.prog 14 = true := by kernel_rfl
theorem F.hb15 : Sl.hasBody Try.prog 15 = true := by kernel_rfl
theorem F.hb16 : Sl.hasBody Try.prog 16 = true := by kernel_rfl
theorem F.hb17 : Sl.hasBody Try.prog 17 = true := by kernel_rfl
theorem F.hb18 : Sl.hasBody Try.prog 18 = true := by kernel_rfl
theorem F.hb19 : Sl.hasBody Try.prog 19 = true := by kernel_rfl
theorem F.hb20 : Sl.hasBody Try.prog 20 = true := by kernel_rfl
theorem F.hb21 : Sl.hasBody Try.prog 21 = true := by kernel_rfl
theorem F.hb22 : Sl.hasBody Try.prog 22 = true := by kernel_rfl
theorem F.hb23 : Sl.hasBody Try.prog 23 = true := by kernel_rfl
theorem F.hb24 : Sl.hasBody Try.prog 24 = true := by kernel_rfl
theorem F.hb25 : Sl.hasBody Try.prog 25 = true := by kernel_rfl
theorem F.hb26 : Sl.hasBody Try.prog 26 = true := by kernel_rfl
theorem F.hb27 : Sl.hasBody Try.prog 27 = true := by kernel_rfl
theorem F.hb28 : Sl.hasBody Try.prog 28 = true := by kernel_rfl
theorem F.hb29 : Sl.hasBody Try.prog 29 = true := by kernel_rfl
theorem F.hb30 : Sl.hasBody Try.prog 30 = true := by kernel_rfl
theorem F.hb31 : Sl.hasBody Try.prog 31 = true := by kernel_rfl
theorem F.hb32 : Sl.hasBody Try.prog 32 = true := by kernel_rfl
theorem F.hb33 : Sl.hasBody Try.prog 33 = true := by kernel_rfl
theorem F.hb34 : Sl.hasBody Try.prog 34 = true := by kernel_rfl
theorem F.hb35 : Sl.hasBody Try.prog 35 = true := by kernel_rfl
theorem F.hb36 : Sl.hasBody Try.prog 36 = true := by kernel_rfl
theorem F.hb37 : Sl.hasBody Try.prog 37 = true := by kernel_rfl
theorem F.hb38 : Sl.hasBody Try.prog 38 = true := by kernel_rfl
theorem F.hb39 : Sl.hasBody Try.prog 39 = true := by kernel_rfl
theorem F.hb40 : Sl.hasBody Try.prog 40 = true := by kernel_rfl
theorem F.hb41 : Sl.hasBody Try.prog 41 = true := by kernel_rfl
theorem F.hb42 : Sl.hasBody Try.prog 42 = true := by kernel_rfl
theorem F.hb43 : Sl.hasBody Try.prog 43 = true := by kernel_rfl
theorem F.hb44 : Sl.hasBody Try.prog 44 = true := by kernel_rfl
theorem F.hb45 : Sl.hasBody Try.prog 45 = true := by kernel_rfl
theorem F.hb46 : Sl.hasBody Try.prog 46 = true := by kernel_rfl
theorem F.hb47 : Sl.hasBody Try.prog 47 = true := by kernel_rfl
theorem F.hb48 : Sl.hasBody Try.prog 48 = true := by kernel_rfl
theorem F.hb49 : Sl.hasBody Try.prog 49 = true := by kernel_rfl
theorem F.hb50 : Sl.hasBody Try.prog 50 = true := by kernel_rfl
theorem F.hb51 : Sl.hasBody Try.prog 51 = true := by kernel_rfl
theorem F.hb52 : Sl.hasBody Try.prog 52 = true := by kernel_rfl
end Go.Proofs.Ytofffddcbjkdcaa

