/- Part of the proof; no statement of its own: A21F, A15F, A6F, A24F, A10F, A5F, A19F, A4F, A3F, A43F, A17F, A2F, A1F, E1F, A32F, H8F, A40F, H7F, H6F, H5F, H4F, H3F, H2F, H1F, A38F, D2F, A34F, D1F, U10F, U9F, A31F, U8F, U7F, U6F, U5F, U4F, U3F, U2F, U1F, P8F, A16F, P7F, P5F, P4F, P3F, P2F, P1F, P1. -/
import Derived.Test.YthlclfdnhnnebaaGreatDoorProg
import Derived.KernelRfl
import Derived.Test.YthlclfdnhnnebaaGreatDoorB06
set_option linter.all false
section
namespace Go.Proofs.YthlclfdnhnnebaaGreatDoor
open Go
theorem F.ag175 : Sl.tyAgg Tryz.prog 175 32 = true := by kernel_rfl
theorem F.ag213 : Sl.tyAgg Tryz.prog 213 40 = true := by kernel_rfl
theorem F.ar210 : Sl.tyArray Tryz.prog 210 4 3 1 = true := by kernel_rfl
theorem F.ar211 : Sl.tyArray Tryz.prog 211 4 26 1 = true := by kernel_rfl
theorem F.fld195_0 : Sl.tyField Tryz.prog 195 0 0 = true := by kernel_rfl
theorem F.fld195_1 : Sl.tyField Tryz.prog 195 1 1 = true := by kernel_rfl
theorem F.fld195_2 : Sl.tyField Tryz.prog 195 2 2 = true := by kernel_rfl
theorem F.fld213_0 : Sl.tyField Tryz.prog 213 0 0 = true := by kernel_rfl
theorem F.fld213_1 : Sl.tyField Tryz.prog 213 1 4 = true := by kernel_rfl
theorem F.hb137 : Sl.hasBody Tryz.prog 137 = true := by kernel_rfl
theorem F.hb172 : Sl.hasBody Tryz.prog 172 = true := by kernel_rfl
theorem F.hb173 : Sl.hasBody Tryz.prog 173 = true := by kernel_rfl
theorem F.hb174 : Sl.hasBody Tryz.prog 174 = true := by kernel_rfl
theorem F.hb177 : Sl.hasBody Tryz.prog 177 = true := by kernel_rfl
theorem F.hb178 : Sl.hasBody Tryz.prog 178 = true := by kernel_rfl
theorem F.mp193 : Sl.tyMap Tryz.prog 193 175 3 = true := by kernel_rfl
theorem F.pl213 : Sl.tyPlaces Tryz.prog 213 = some ([(0, 4), (4, 4), (8, 32)], .agg #[.int .i64 (0), .int .i64 (0), .int .i64 (0), .int .i64 (0), .int .u32 (0), .int .u32 (0), .int .u32 (0), .int .u32 (0), .int .u8 (0), .int .u8 (0), .int .u8 (0), .int .u8 (0), .int .u8 (0), .int .u8 (0), .int .u8 (0), .int .u8 (0), .int .u8 (0), .int .u8 (0), .int .u8 (0), .int .u8 (0), .int .u8 (0), .int .u8 (0), .int .u8 (0), .int .u8 (0), .int .u8 (0), .int .u8 (0), .int .u8 (0), .int .u8 (0), .int .u8 (0), .int .u8 (0), .int .u8 (0), .int .u8 (0), .int .u8 (0), .int .u8 (0), .int .u8 (0), .int .u8 (0), .int .u8 (0), .int .u8 (0), .int .u8 (0), .int .u8 (0)]) := by kernel_rfl
theorem F.sc193 : Sl.tyScalar Tryz.prog 193 = true := by kernel_rfl
theorem F.sl247 : Sl.tySlice Tryz.prog 247 9 1 = true := by kernel_rfl
theorem F.sz213 : (match Tryz.prog.info? 213 with | some i => i.size == 40 | none => false) = true := by kernel_rfl
theorem F.z175 : (match Tryz.prog.info? 175 with | some i => i.zero | none => none) = some (.agg #[.int .u8 (0), .int .u8 (0), .int .u8 (0), .int .u8 (0), .int .u8 (0), .int .u8 (0), .int .u8 (0), .int .u8 (0), .int .u8 (0), .int .u8 (0), .int .u8 (0), .int .u8 (0), .int .u8 (0), .int .u8 (0), .int .u8 (0), .int .u8 (0), .int .u8 (0), .int .u8 (0), .int .u8 (0), .int .u8 (0), .int .u8 (0), .int .u8 (0), .int .u8 (0), .int .u8 (0), .int .u8 (0), .int .u8 (0), .int .u8 (0), .int .u8 (0), .int .u8 (0), .int .u8 (0), .int .u8 (0), .int .u8 (0)]) := by kernel_rfl
theorem F.z213 : (match Tryz.prog.info? 213 with | some i => i.zero | none => none) = some (.agg #[.int .i64 (0), .int .i64 (0), .int .i64 (0), .int .i64 (0), .int .u32 (0), .int .u32 (0), .int .u32 (0), .int .u32 (0), .int .u8 (0), .int .u8 (0), .int .u8 (0), .int .u8 (0), .int .u8 (0), .int .u8 (0), .int .u8 (0), .int .u8 (0), .int .u8 (0), .int .u8 (0), .int .u8 (0), .int .u8 (0), .int .u8 (0), .int .u8 (0), .int .u8 (0), .int .u8 (0), .int .u8 (0), .int .u8 (0), .int .u8 (0), .int .u8 (0), .int .u8 (0), .int .u8 (0), .int .u8 (0), .int .u8 (0), .int .u8 (0), .int .u8 (0), .int .u8 (0), .int .u8 (0), .int .u8 (0), .int .u8 (0), .int .u8 (0), .int .u8 (0)]) := by kernel_rfl
theorem F.z3 : (match Tryz.prog.info? 3 with | some i => i.zero | none => none) = some (.int .i64 (0)) := by kernel_rfl
theorem F.z9 : (match Tryz.prog.info? 9 with | some i => i.zero | none => none) = some (.string ByteArray.empty) := by kernel_rfl
end Go.Proofs.YthlclfdnhnnebaaGreatDoor
end
section
namespace Go.Proofs.YthlclfdnhnnebaaGreatDoor
open Go
theorem F.ar175 : Sl.tyArray Tryz.prog 175 32 5 1 = true := by kernel_rfl
theorem F.fa213_2 : Sl.tyFieldAt Tryz.prog 213 2 8 32 true = true := by kernel_rfl
theorem F.hb180 : Sl.hasBody Tryz.prog 180 = true := by kernel_rfl
end Go.Proofs.YthlclfdnhnnebaaGreatDoor
end
section
namespace Go.Proofs.YthlclfdnhnnebaaGreatDoor
open Go
theorem F.hb154 : Sl.hasBody Tryz.prog 154 = true := by kernel_rfl
theorem F.hb155 : Sl.hasBody Tryz.prog 155 = true := by kernel_rfl
theorem F.hb156 : Sl.hasBody Tryz.prog 156 = true := by kernel_rfl
theorem F.hb214 : Sl.hasBody Tryz.prog 214 = true := by kernel_rfl
theorem F.hb215 : Sl.hasBody Tryz.prog 215 = true := by kernel_rfl
theorem F.in3 : Sl.tyInt Tryz.prog 3 .i64 = true := by kernel_rfl
end Go.Proofs.YthlclfdnhnnebaaGreatDoor
end
section
namespace Go.Proofs.YthlclfdnhnnebaaGreatDoor
open Go
theorem F.ag273 : Sl.tyAgg Tryz.prog 273 256 = true := by kernel_rfl
theorem F.ar273 : Sl.tyArray Tryz.prog 273 8 175 32 = true := by kernel_rfl
theorem F.fa220_2 : Sl.tyFieldAt Tryz.prog 220 2 9 32 true = true := by kernel_rfl
theorem F.fld220_0 : Sl.tyField Tryz.prog 220 0 0 = true := by kernel_rfl
theorem F.hb250 : Sl.hasBody Tryz.prog 250 = true := by kernel_rfl
theorem F.sz273 : (match Tryz.prog.info? 273 with | some i => i.size == 256 | none => false) = true := by kernel_rfl
theorem F.z273 : (match Tryz.prog.info? 273 with | some i => i.zero | none => none) = some (.agg #[.int .u8 (0), .int .u8 (0), .int .u8 (0), .int .u8 (0), .int .u8 (0), .int .u8 (0), .int .u8 (0), .int .u8 (0), .int .u8 (0), .int .u8 (0), .int .u8 (0), .int .u8 (0), .int .u8 (0), .int .u8 (0), .int .u8 (0), .int .u8 (0), .int .u8 (0), .int .u8 (0), .int .u8 (0), .int .u8 (0), .int .u8 (0), .int .u8 (0), .int .u8 (0), .int .u8 (0), .int .u8 (0), .int .u8 (0), .int .u8 (0), .int .u8 (0), .int .u8 (0), .int .u8 (0), .int .u8 (0), .int .u8 (0), .int .u8 (0), .int .u8 (0), .int .u8 (0), .int .u8 (0), .int .u8 (0), .int .u8 (0), .int .u8 (0), .int .u8 (0), .int .u8 (0), .int .u8 (0), .int .u8 (0), .int .u8 (0), .int .u8 (0), .int .u8 (0), .int .u8 (0), .int .u8 (0), .int .u8 (0), .int .u8 (0), .int .u8 (0), .int .u8 (0), .int .u8 (0), .int .u8 (0), .int .u8 (0), .int .u8 (0), .int .u8 (0), .int .u8 (0), .int .u8 (0), .int .u8 (0), .int .u8 (0), .int .u8 (0), .int .u8 (0), .int .u8 (0), .int .u8 (0), .int .u8 (0), .int .u8 (0), .int .u8 (0), .int .u8 (0), .int .u8 (0), .int .u8 (0), .int .u8 (0), .int .u8 (0), .int .u8 (0), .int .u8 (0), .int .u8 (0), .int .u8 (0), .int .u8 (0), .int .u8 (0), .int .u8 (0), .int .u8 (0), .int .u8 (0), .int .u8 (0), .int .u8 (0), .int .u8 (0), .int .u8 (0), .int .u8 (0), .int .u8 (0), .int .u8 (0), .int .u8 (0), .int .u8 (0), .int .u8 (0), .int .u8 (0), .int .u8 (0), .int .u8 (0), .int .u8 (0), .int .u8 (0), .int .u8 (0), .int .u8 (0), .int .u8 (0), .int .u8 (0), .int .u8 (0), .int .u8 (0), .int .u8 (0), .int .u8 (0), .int .u8 (0), .int .u8 (0), .int .u8 (0), .int .u8 (0), .int .u8 (0), .int .u8 (0), .int .u8 (0), .int .u8 (0), .int .u8 (0), .int .u8 (0), .int .u8 (0), .int .u8 (0), .int .u8 (0), .int .u8 (0), .int .u8 (0), .int .u8 (0), .int .u8 (0), .int .u8 (0), .int .u8 (0), .int .u8 (0), .int .u8 (0), .int .u8 (0), .int .u8 (0), .int .u8 (0), .int .u8 (0), .int .u8 (0), .int .u8 (0), .int .u8 (0), .int .u8 (0), .int .u8 (0), .int .u8 (0), .int .u8 (0), .int .u8 (0), .int .u8 (0), .int .u8 (0), .int .u8 (0), .int .u8 (0), .int .u8 (0), .int .u8 (0), .int .u8 (0), .int .u8 (0), .int .u8 (0), .int .u8 (0), .int .u8 (0), .int .u8 (0), .int .u8 (0), .int .u8 (0), .int .u8 (0), .int .u8 (0), .int .u8 (0), .int .u8 (0), .int .u8 (0), .int .u8 (0), .int .u8 (0), .int .u8 (0), .int .u8 (0), .int .u8 (0), .int .u8 (0), .int .u8 (0), .int .u8 (0), .int .u8 (0), .int .u8 (0), .int .u8 (0), .int .u8 (0), .int .u8 (0), .int .u8 (0), .int .u8 (0), .int .u8 (0), .int .u8 (0), .int .u8 (0), .int .u8 (0), .int .u8 (0), .int .u8 (0), .int .u8 (0), .int .u8 (0), .int .u8 (0), .int .u8 (0), .int .u8 (0), .int .u8 (0), .int .u8 (0), .int .u8 (0), .int .u8 (0), .int .u8 (0), .int .u8 (0), .int .u8 (0), .int .u8 (0), .int .u8 (0), .int .u8 (0), .int .u8 (0), .int .u8 (0), .int .u8 (0), .int .u8 (0), .int .u8 (0), .int .u8 (0), .int .u8 (0), .int .u8 (0), .int .u8 (0), .int .u8 (0), .int .u8 (0), .int .u8 (0), .int .u8 (0), .int .u8 (0), .int .u8 (0), .int .u8 (0), .int .u8 (0), .int .u8 (0), .int .u8 (0), .int .u8 (0), .int .u8 (0), .int .u8 (0), .int .u8 (0), .int .u8 (0), .int .u8 (0), .int .u8 (0), .int .u8 (0), .int .u8 (0), .int .u8 (0), .int .u8 (0), .int .u8 (0), .int .u8 (0), .int .u8 (0), .int .u8 (0), .int .u8 (0), .int .u8 (0), .int .u8 (0), .int .u8 (0), .int .u8 (0), .int .u8 (0), .int .u8 (0), .int .u8 (0), .int .u8 (0), .int .u8 (0), .int .u8 (0), .int .u8 (0), .int .u8 (0), .int .u8 (0), .int .u8 (0), .int .u8 (0), .int .u8 (0), .int .u8 (0), .int .u8 (0), .int .u8 (0), .int .u8 (0), .int .u8 (0), .int .u8 (0), .int .u8 (0), .int .u8 (0), .int .u8 (0), .int .u8 (0), .int .u8 (0), .int .u8 (0)]) := by kernel_rfl
end Go.Proofs.YthlclfdnhnnebaaGreatDoor
end
section
namespace Go.Proofs.YthlclfdnhnnebaaGreatDoor
open Go
theorem F.hb258 : Sl.hasBody Tryz.prog 258 = true := by kernel_rfl
theorem F.in161 : Sl.tyInt Tryz.prog 161 .u64 = true := by kernel_rfl
theorem F.sz161 : (match Tryz.prog.info? 161 with | some i => i.size == 1 | none => false) = true := by kernel_rfl
end Go.Proofs.YthlclfdnhnnebaaGreatDoor
end
section
namespace Go.Proofs.YthlclfdnhnnebaaGreatDoor
open Go
theorem F.hb108 : Sl.hasBody Tryz.prog 108 = true := by kernel_rfl
theorem F.hb109 : Sl.hasBody Tryz.prog 109 = true := by kernel_rfl
theorem F.hb110 : Sl.hasBody Tryz.prog 110 = true := by kernel_rfl
theorem F.hb210 : Sl.hasBody Tryz.prog 210 = true := by kernel_rfl
theorem F.z186 : (match Tryz.prog.info? 186 with | some i => i.zero | none => none) = some (.agg #[.slice none 0 0]) := by kernel_rfl
end Go.Proofs.YthlclfdnhnnebaaGreatDoor
end
section
namespace Go.Proofs.YthlclfdnhnnebaaGreatDoor
open Go
theorem F.ag210 : Sl.tyAgg Tryz.prog 210 4 = true := by kernel_rfl
theorem F.fld213_2 : Sl.tyField Tryz.prog 213 2 8 = true := by kernel_rfl
theorem F.hb135 : Sl.hasBody Tryz.prog 135 = true := by kernel_rfl
theorem F.hb198 : Sl.hasBody Tryz.prog 198 = true := by kernel_rfl
end Go.Proofs.YthlclfdnhnnebaaGreatDoor
end
section
namespace Go.Proofs.YthlclfdnhnnebaaGreatDoor
open Go
end Go.Proofs.YthlclfdnhnnebaaGreatDoor
end
section
namespace Go.Proofs.YthlclfdnhnnebaaGreatDoor
open Go
end Go.Proofs.YthlclfdnhnnebaaGreatDoor
end
section
namespace Go.Proofs.YthlclfdnhnnebaaGreatDoor
open Go
theorem F.fld34_0 : Sl.tyField Tryz.prog 34 0 0 = true := by kernel_rfl
theorem F.hb10 : Sl.hasBody Tryz.prog 10 = true := by kernel_rfl
theorem F.hb11 : Sl.hasBody Tryz.prog 11 = true := by kernel_rfl
theorem F.hb12 : Sl.hasBody Tryz.prog 12 = true := by kernel_rfl
theorem F.hb6 : Sl.hasBody Tryz.prog 6 = true := by kernel_rfl
theorem F.hb7 : Sl.hasBody Tryz.prog 7 = true := by kernel_rfl
theorem F.hb8 : Sl.hasBody Tryz.prog 8 = true := by kernel_rfl
theorem F.hb9 : Sl.hasBody Tryz.prog 9 = true := by kernel_rfl
theorem F.sc29 : Sl.tyScalar Tryz.prog 29 = true := by kernel_rfl
theorem F.st9 : Sl.tyString Tryz.prog 9 = true := by kernel_rfl
end Go.Proofs.YthlclfdnhnnebaaGreatDoor
end
section
namespace Go.Proofs.YthlclfdnhnnebaaGreatDoor
open Go
theorem F.fld84_1 : Sl.tyField Tryz.prog 84 1 1 = true := by kernel_rfl
theorem F.sc74 : Sl.tyScalar Tryz.prog 74 = true := by kernel_rfl
end Go.Proofs.YthlclfdnhnnebaaGreatDoor
end
section
namespace Go.Proofs.YthlclfdnhnnebaaGreatDoor
open Go
theorem F.ag211 : Sl.tyAgg Tryz.prog 211 4 = true := by kernel_rfl
theorem F.fld186_0 : Sl.tyField Tryz.prog 186 0 0 = true := by kernel_rfl
end Go.Proofs.YthlclfdnhnnebaaGreatDoor
end
section
namespace Go.Proofs.YthlclfdnhnnebaaGreatDoor
open Go
end Go.Proofs.YthlclfdnhnnebaaGreatDoor
end
section
namespace Go.Proofs.YthlclfdnhnnebaaGreatDoor
open Go
theorem F.fld262_0 : Sl.tyField Tryz.prog 262 0 0 = true := by kernel_rfl
theorem F.hb203 : Sl.hasBody Tryz.prog 203 = true := by kernel_rfl
theorem F.sz9 : (match Tryz.prog.info? 9 with | some i => i.size == 1 | none => false) = true := by kernel_rfl
end Go.Proofs.YthlclfdnhnnebaaGreatDoor
end
section
namespace Go.Proofs.YthlclfdnhnnebaaGreatDoor
open Go
theorem F.fld144_1 : Sl.tyField Tryz.prog 144 1 1 = true := by kernel_rfl
theorem F.fld69_3 : Sl.tyField Tryz.prog 69 3 3 = true := by kernel_rfl
theorem F.fld69_4 : Sl.tyField Tryz.prog 69 4 4 = true := by kernel_rfl
theorem F.fld72_0 : Sl.tyField Tryz.prog 72 0 0 = true := by kernel_rfl
theorem F.fld72_5 : Sl.tyField Tryz.prog 72 5 5 = true := by kernel_rfl
theorem F.hb122 : Sl.hasBody Tryz.prog 122 = true := by kernel_rfl
theorem F.hb76 : Sl.hasBody Tryz.prog 76 = true := by kernel_rfl
theorem F.sc136 : Sl.tyScalar Tryz.prog 136 = true := by kernel_rfl
end Go.Proofs.YthlclfdnhnnebaaGreatDoor
end
section
namespace Go.Proofs.YthlclfdnhnnebaaGreatDoor
open Go
theorem F.fld144_0 : Sl.tyField Tryz.prog 144 0 0 = true := by kernel_rfl
theorem F.fld144_2 : Sl.tyField Tryz.prog 144 2 2 = true := by kernel_rfl
theorem F.fld144_3 : Sl.tyField Tryz.prog 144 3 3 = true := by kernel_rfl
theorem F.fld144_4 : Sl.tyField Tryz.prog 144 4 4 = true := by kernel_rfl
theorem F.fld144_6 : Sl.tyField Tryz.prog 144 6 6 = true := by kernel_rfl
theorem F.hb124 : Sl.hasBody Tryz.prog 124 = true := by kernel_rfl
theorem F.hb127 : Sl.hasBody Tryz.prog 127 = true := by kernel_rfl
theorem F.hb206 : Sl.hasBody Tryz.prog 206 = true := by kernel_rfl
theorem F.hb207 : Sl.hasBody Tryz.prog 207 = true := by kernel_rfl
theorem F.hb208 : Sl.hasBody Tryz.prog 208 = true := by kernel_rfl
theorem F.hb209 : Sl.hasBody Tryz.prog 209 = true := by kernel_rfl
theorem F.sc140 : Sl.tyScalar Tryz.prog 140 = true := by kernel_rfl
theorem F.sc142 : Sl.tyScalar Tryz.prog 142 = true := by kernel_rfl
theorem F.sc64 : Sl.tyScalar Tryz.prog 64 = true := by kernel_rfl
end Go.Proofs.YthlclfdnhnnebaaGreatDoor
end
section
namespace Go.Proofs.YthlclfdnhnnebaaGreatDoor
open Go
theorem F.fld69_0 : Sl.tyField Tryz.prog 69 0 0 = true := by kernel_rfl
theorem F.fld69_1 : Sl.tyField Tryz.prog 69 1 1 = true := by kernel_rfl
theorem F.hb21 : Sl.hasBody Tryz.prog 21 = true := by kernel_rfl
theorem F.hb22 : Sl.hasBody Tryz.prog 22 = true := by kernel_rfl
theorem F.hb23 : Sl.hasBody Tryz.prog 23 = true := by kernel_rfl
theorem F.pl32 : Sl.tyPlaces Tryz.prog 32 = some ([(0, 1), (1, 1), (2, 1), (3, 1)], .agg #[.slice none 0 0, .int .i64 (0), .int .i64 (0), .int .i64 (0)]) := by kernel_rfl
theorem F.pl34 : Sl.tyPlaces Tryz.prog 34 = some ([(0, 1), (1, 4)], .agg #[.pointer none, .slice none 0 0, .int .i64 (0), .int .i64 (0), .int .i64 (0)]) := by kernel_rfl
theorem F.pt29 : Sl.tyPtr Tryz.prog 29 = true := by kernel_rfl
theorem F.pt62 : Sl.tyPtr Tryz.prog 62 = true := by kernel_rfl
theorem F.pt66 : Sl.tyPtr Tryz.prog 66 = true := by kernel_rfl
theorem F.sc62 : Sl.tyScalar Tryz.prog 62 = true := by kernel_rfl
theorem F.sc66 : Sl.tyScalar Tryz.prog 66 = true := by kernel_rfl
end Go.Proofs.YthlclfdnhnnebaaGreatDoor
end
section
namespace Go.Proofs.YthlclfdnhnnebaaGreatDoor
open Go
theorem F.fld144_5 : Sl.tyField Tryz.prog 144 5 5 = true := by kernel_rfl
theorem F.hb243 : Sl.hasBody Tryz.prog 243 = true := by kernel_rfl
theorem F.hb244 : Sl.hasBody Tryz.prog 244 = true := by kernel_rfl
theorem F.hb246 : Sl.hasBody Tryz.prog 246 = true := by kernel_rfl
theorem F.mp142 : Sl.tyMap Tryz.prog 142 3 3 = true := by kernel_rfl
theorem F.sc109 : Sl.tyScalar Tryz.prog 109 = true := by kernel_rfl
theorem F.sl109 : Sl.tySlice Tryz.prog 109 3 1 = true := by kernel_rfl
theorem F.tb3 : Sl.tyBytes Tryz.prog 3 8 = true := by kernel_rfl
end Go.Proofs.YthlclfdnhnnebaaGreatDoor
end
section
namespace Go.Proofs.YthlclfdnhnnebaaGreatDoor
open Go
end Go.Proofs.YthlclfdnhnnebaaGreatDoor
end
section
namespace Go.Proofs.YthlclfdnhnnebaaGreatDoor
open Go
end Go.Proofs.YthlclfdnhnnebaaGreatDoor
end
section
namespace Go.Proofs.YthlclfdnhnnebaaGreatDoor
open Go
theorem F.hb81 : Sl.hasBody Tryz.prog 81 = true := by kernel_rfl
theorem F.hb82 : Sl.hasBody Tryz.prog 82 = true := by kernel_rfl
theorem F.hb83 : Sl.hasBody Tryz.prog 83 = true := by kernel_rfl
end Go.Proofs.YthlclfdnhnnebaaGreatDoor
end
section
namespace Go.Proofs.YthlclfdnhnnebaaGreatDoor
open Go
theorem F.hb132 : Sl.hasBody Tryz.prog 132 = true := by kernel_rfl
theorem F.hb133 : Sl.hasBody Tryz.prog 133 = true := by kernel_rfl
theorem F.sz109 : (match Tryz.prog.info? 109 with | some i => i.size == 1 | none => false) = true := by kernel_rfl
end Go.Proofs.YthlclfdnhnnebaaGreatDoor
end
section
namespace Go.Proofs.YthlclfdnhnnebaaGreatDoor
open Go
theorem F.hb123 : Sl.hasBody Tryz.prog 123 = true := by kernel_rfl
end Go.Proofs.YthlclfdnhnnebaaGreatDoor
end
section
namespace Go.Proofs.YthlclfdnhnnebaaGreatDoor
open Go
theorem F.fld139_1 : Sl.tyField Tryz.prog 139 1 1 = true := by kernel_rfl
theorem F.hb181 : Sl.hasBody Tryz.prog 181 = true := by kernel_rfl
end Go.Proofs.YthlclfdnhnnebaaGreatDoor
end
section
namespace Go.Proofs.YthlclfdnhnnebaaGreatDoor
open Go
theorem F.fld147_0 : Sl.tyField Tryz.prog 147 0 0 = true := by kernel_rfl
theorem F.hb73 : Sl.hasBody Tryz.prog 73 = true := by kernel_rfl
theorem F.pl147 : Sl.tyPlaces Tryz.prog 147 = some ([(0, 1), (1, 1), (2, 1), (3, 1)], .agg #[.slice none 0 0, .bool false, .int .i64 (0), .bool false]) := by kernel_rfl
theorem F.pl149 : Sl.tyPlaces Tryz.prog 149 = some ([(0, 1), (1, 1)], .agg #[.string ByteArray.empty, .string ByteArray.empty]) := by kernel_rfl
theorem F.sc145 : Sl.tyScalar Tryz.prog 145 = true := by kernel_rfl
theorem F.sl145 : Sl.tySlice Tryz.prog 145 149 2 = true := by kernel_rfl
theorem F.sz145 : (match Tryz.prog.info? 145 with | some i => i.size == 1 | none => false) = true := by kernel_rfl
theorem F.tb149 : Sl.tyBytes Tryz.prog 149 32 = true := by kernel_rfl
theorem F.z149 : (match Tryz.prog.info? 149 with | some i => i.zero | none => none) = some (.agg #[.string ByteArray.empty, .string ByteArray.empty]) := by kernel_rfl
end Go.Proofs.YthlclfdnhnnebaaGreatDoor
end
section
namespace Go.Proofs.YthlclfdnhnnebaaGreatDoor
open Go
theorem F.fld149_1 : Sl.tyField Tryz.prog 149 1 1 = true := by kernel_rfl
theorem F.hb216 : Sl.hasBody Tryz.prog 216 = true := by kernel_rfl
theorem F.hb217 : Sl.hasBody Tryz.prog 217 = true := by kernel_rfl
end Go.Proofs.YthlclfdnhnnebaaGreatDoor
end
section
namespace Go.Proofs.YthlclfdnhnnebaaGreatDoor
open Go
theorem F.fld72_3 : Sl.tyField Tryz.prog 72 3 3 = true := by kernel_rfl
theorem F.fld72_4 : Sl.tyField Tryz.prog 72 4 4 = true := by kernel_rfl
theorem F.hb120 : Sl.hasBody Tryz.prog 120 = true := by kernel_rfl
theorem F.hb121 : Sl.hasBody Tryz.prog 121 = true := by kernel_rfl
theorem F.hb167 : Sl.hasBody Tryz.prog 167 = true := by kernel_rfl
theorem F.hb24 : Sl.hasBody Tryz.prog 24 = true := by kernel_rfl
theorem F.hb53 : Sl.hasBody Tryz.prog 53 = true := by kernel_rfl
theorem F.hb68 : Sl.hasBody Tryz.prog 68 = true := by kernel_rfl
theorem F.pl72 : Sl.tyPlaces Tryz.prog 72 = some ([(0, 1), (1, 1), (2, 1), (3, 1), (4, 1), (5, 1)], .agg #[.int .u32 (0), .int .u32 (0), .bool false, .int .i64 (0), .int .i64 (0), .int .u32 (0)]) := by kernel_rfl
theorem F.sc4 : Sl.tyScalar Tryz.prog 4 = true := by kernel_rfl
end Go.Proofs.YthlclfdnhnnebaaGreatDoor
end
section
namespace Go.Proofs.YthlclfdnhnnebaaGreatDoor
open Go
theorem F.fld147_1 : Sl.tyField Tryz.prog 147 1 1 = true := by kernel_rfl
theorem F.fld147_2 : Sl.tyField Tryz.prog 147 2 2 = true := by kernel_rfl
theorem F.fld147_3 : Sl.tyField Tryz.prog 147 3 3 = true := by kernel_rfl
theorem F.sz4 : (match Tryz.prog.info? 4 with | some i => i.size == 1 | none => false) = true := by kernel_rfl
end Go.Proofs.YthlclfdnhnnebaaGreatDoor
end
section
namespace Go.Proofs.YthlclfdnhnnebaaGreatDoor
open Go
theorem F.fld139_0 : Sl.tyField Tryz.prog 139 0 0 = true := by kernel_rfl
theorem F.hb105 : Sl.hasBody Tryz.prog 105 = true := by kernel_rfl
theorem F.hb130 : Sl.hasBody Tryz.prog 130 = true := by kernel_rfl
theorem F.hb131 : Sl.hasBody Tryz.prog 131 = true := by kernel_rfl
theorem F.sc137 : Sl.tyScalar Tryz.prog 137 = true := by kernel_rfl
theorem F.sl137 : Sl.tySlice Tryz.prog 137 1 1 = true := by kernel_rfl
end Go.Proofs.YthlclfdnhnnebaaGreatDoor
end
section
namespace Go.Proofs.YthlclfdnhnnebaaGreatDoor
open Go
theorem F.sz137 : (match Tryz.prog.info? 137 with | some i => i.size == 1 | none => false) = true := by kernel_rfl
end Go.Proofs.YthlclfdnhnnebaaGreatDoor
end
section
namespace Go.Proofs.YthlclfdnhnnebaaGreatDoor
open Go
theorem F.hb77 : Sl.hasBody Tryz.prog 77 = true := by kernel_rfl
theorem F.hb78 : Sl.hasBody Tryz.prog 78 = true := by kernel_rfl
theorem F.sc1 : Sl.tyScalar Tryz.prog 1 = true := by kernel_rfl
end Go.Proofs.YthlclfdnhnnebaaGreatDoor
end
section
namespace Go.Proofs.YthlclfdnhnnebaaGreatDoor
open Go
end Go.Proofs.YthlclfdnhnnebaaGreatDoor
end
section
namespace Go.Proofs.YthlclfdnhnnebaaGreatDoor
open Go
theorem F.hb128 : Sl.hasBody Tryz.prog 128 = true := by kernel_rfl
theorem F.hb158 : Sl.hasBody Tryz.prog 158 = true := by kernel_rfl
theorem F.hb168 : Sl.hasBody Tryz.prog 168 = true := by kernel_rfl
theorem F.hb169 : Sl.hasBody Tryz.prog 169 = true := by kernel_rfl
theorem F.hb211 : Sl.hasBody Tryz.prog 211 = true := by kernel_rfl
theorem F.hb245 : Sl.hasBody Tryz.prog 245 = true := by kernel_rfl
theorem F.hb249 : Sl.hasBody Tryz.prog 249 = true := by kernel_rfl
theorem F.hb259 : Sl.hasBody Tryz.prog 259 = true := by kernel_rfl
theorem F.hb261 : Sl.hasBody Tryz.prog 261 = true := by kernel_rfl
theorem F.hb273 : Sl.hasBody Tryz.prog 273 = true := by kernel_rfl
theorem F.hb274 : Sl.hasBody Tryz.prog 274 = true := by kernel_rfl
end Go.Proofs.YthlclfdnhnnebaaGreatDoor
end
section
namespace Go.Proofs.YthlclfdnhnnebaaGreatDoor
open Go
theorem F.hb129 : Sl.hasBody Tryz.prog 129 = true := by kernel_rfl
theorem F.hb212 : Sl.hasBody Tryz.prog 212 = true := by kernel_rfl
theorem F.hb260 : Sl.hasBody Tryz.prog 260 = true := by kernel_rfl
theorem F.sc200 : Sl.tyScalar Tryz.prog 200 = true := by kernel_rfl
theorem F.sc202 : Sl.tyScalar Tryz.prog 202 = true := by kernel_rfl
theorem F.sc310 : Sl.tyScalar Tryz.prog 310 = true := by kernel_rfl
end Go.Proofs.YthlclfdnhnnebaaGreatDoor
end
section
namespace Go.Proofs.YthlclfdnhnnebaaGreatDoor
open Go
theorem F.z109 : (match Tryz.prog.info? 109 with | some i => i.zero | none => none) = some (.slice none 0 0) := by kernel_rfl
end Go.Proofs.YthlclfdnhnnebaaGreatDoor
end
section
namespace Go.Proofs.YthlclfdnhnnebaaGreatDoor
open Go
theorem F.z4 : (match Tryz.prog.info? 4 with | some i => i.zero | none => none) = some (.bool false) := by kernel_rfl
end Go.Proofs.YthlclfdnhnnebaaGreatDoor
end
section
namespace Go.Proofs.YthlclfdnhnnebaaGreatDoor
open Go
theorem F.ka175 : Sl.tyKeyArr Tryz.prog 175 32 5 = true := by kernel_rfl
end Go.Proofs.YthlclfdnhnnebaaGreatDoor
end
section
namespace Go.Proofs.YthlclfdnhnnebaaGreatDoor
open Go
theorem F.tb1 : Sl.tyBytes Tryz.prog 1 8 = true := by kernel_rfl
theorem F.z1 : (match Tryz.prog.info? 1 with | some i => i.zero | none => none) = some (.nilFunc) := by kernel_rfl
end Go.Proofs.YthlclfdnhnnebaaGreatDoor
end
section
namespace Go.Proofs.YthlclfdnhnnebaaGreatDoor
open Go
end Go.Proofs.YthlclfdnhnnebaaGreatDoor
end
section
namespace Go.Proofs.YthlclfdnhnnebaaGreatDoor
open Go
end Go.Proofs.YthlclfdnhnnebaaGreatDoor
end
section
namespace Go.Proofs.YthlclfdnhnnebaaGreatDoor
open Go
theorem F.hb84 : Sl.hasBody Tryz.prog 84 = true := by kernel_rfl
theorem F.sz74 : (match Tryz.prog.info? 74 with | some i => i.size == 1 | none => false) = true := by kernel_rfl
theorem F.tb5 : Sl.tyBytes Tryz.prog 5 1 = true := by kernel_rfl
end Go.Proofs.YthlclfdnhnnebaaGreatDoor
end
section
namespace Go.Proofs.YthlclfdnhnnebaaGreatDoor
open Go
end Go.Proofs.YthlclfdnhnnebaaGreatDoor
end
section
namespace Go.Proofs.YthlclfdnhnnebaaGreatDoor
open Go
end Go.Proofs.YthlclfdnhnnebaaGreatDoor
end
section
namespace Go.Proofs.YthlclfdnhnnebaaGreatDoor
open Go
end Go.Proofs.YthlclfdnhnnebaaGreatDoor
end
section
namespace Go.Proofs.YthlclfdnhnnebaaGreatDoor
open Go
end Go.Proofs.YthlclfdnhnnebaaGreatDoor
end
section
namespace Go.Proofs.YthlclfdnhnnebaaGreatDoor
open Go
theorem F.pl262 : Sl.tyPlaces Tryz.prog 262 = some ([(0, 1)], .agg #[.string ByteArray.empty]) := by kernel_rfl
end Go.Proofs.YthlclfdnhnnebaaGreatDoor
end
section
namespace Go.Proofs.YthlclfdnhnnebaaGreatDoor
open Go
theorem F.fld152_0 : Sl.tyField Tryz.prog 152 0 0 = true := by kernel_rfl
theorem F.hb153 : Sl.hasBody Tryz.prog 153 = true := by kernel_rfl
theorem F.hb192 : Sl.hasBody Tryz.prog 192 = true := by kernel_rfl
theorem F.if20 : Sl.tyIface Tryz.prog 20 = true := by kernel_rfl
theorem F.ni152 : (match Tryz.prog.underlying 152 with | some (.interface _) | none => false | _ => true) = true := by kernel_rfl
theorem F.pl152 : Sl.tyPlaces Tryz.prog 152 = some ([(0, 1)], .agg #[.int .i64 (0)]) := by kernel_rfl
theorem F.sc27 : Sl.tyScalar Tryz.prog 27 = true := by kernel_rfl
theorem F.sz152 : (match Tryz.prog.info? 152 with | some i => i.size == 1 | none => false) = true := by kernel_rfl
theorem F.sz27 : (match Tryz.prog.info? 27 with | some i => i.size == 1 | none => false) = true := by kernel_rfl
theorem F.z152 : (match Tryz.prog.info? 152 with | some i => i.zero | none => none) = some (.agg #[.int .i64 (0)]) := by kernel_rfl
theorem F.z27 : (match Tryz.prog.info? 27 with | some i => i.zero | none => none) = some (.int .i64 (0)) := by kernel_rfl
end Go.Proofs.YthlclfdnhnnebaaGreatDoor
end
section
set_option maxRecDepth 4000
set_option maxHeartbeats 4000000
namespace Go.Proofs.YthlclfdnhnnebaaGreatDoor
open Go.Sl
def fault (e : Int) : List PanicEntry := [{ v := .iface 152 (.agg #[.int .i64 e]), recovered := false }]
def Fails (e : Int) : Ending → List Asrt → Prop := fun en L => en = .panicked (fault e) ∧ L = []
theorem fail_spec (e : Int) : Does Tryz.prog 29 #[.int .i64 e] [] (Fails e) := by
  refine does_enter Tryz.func29 rfl Tryz.ntmps29 rfl (fun R w0 => ?_)
  simp only [envOf, List.cons_append, List.nil_append]
  refine cw_region ?_
  refine ow_y (y_move rfl) ?_
  refine ow_y (y_build F.pl152 rfl (by simp [fillL, nth, Value.cells] <;> rfl)) ?_
  refine ow_y (y_iface F.ni152 rfl) ?_
  refine (ow_panic rfl ?_)
  repeat (first | with_reducible refine kw_inBlock_panic ?_ | with_reducible refine kw_then_panic ?_)
  refine kw_panic (fun _ _ h => h) (Split.back aSp) ⟨rfl, rfl⟩
theorem catch_ok (b : Nat) (o : Obj) : DoesD Tryz.prog 192 #[.pointer (some ⟨b, 0, none⟩)] .returning [pts b o] (fun e u' L' => (∃ v, e = .returned v) ∧ settle u' = .returning ∧ L' = [pts b o]) := by
  refine doesD_rec (args := [.pointer (some ⟨b, 0, none⟩)]) Tryz.func192 rfl Tryz.ntmps192 rfl rfl rfl (fun R w0 => ?_)
  simp only [rec1, envOf, List.cons_append, List.nil_append]
  refine cw_seq ?_
  refine cw_seq ?_
  refine cw_region ?_
  refine ow_y (y_move rfl) ?_
  refine ow_y (y_if_nil F.if20 rfl rfl) ?_
  refine ow_nil ?_
  refine kw_code (fun _ _ h => h) ?_
  refine cw_true rfl (by first | rfl | exact decide_eq_true (by omega)) ?_
  refine cw_ret (kw_ret (fun _ _ h => h) rfl (Split.back aSp) ⟨⟨_, rfl⟩, rfl, rfl⟩)
theorem catch_fault (b : Nat) (e e0 : Int) : DoesD Tryz.prog 192 #[.pointer (some ⟨b, 0, none⟩)] (.panicking (fault e)) [pts b (.cells #[.int .i64 e0] 27 (0, 0))]
    (fun e' u' L' => (∃ v, e' = .returned v) ∧ settle u' = .returning ∧ L' = [pts b (.cells #[.int .i64 e] 27 (0, 0))]) := by
  refine doesD_rec (args := [.pointer (some ⟨b, 0, none⟩)]) Tryz.func192 rfl Tryz.ntmps192 rfl rfl rfl (fun R w0 => ?_)
  simp only [rec1, fault, envOf, List.cons_append, List.nil_append]
  refine cw_seq ?_
  refine cw_seq ?_
  refine cw_region ?_
  refine ow_y (y_move rfl) ?_
  refine ow_y (y_if_nil F.if20 rfl rfl) ?_
  refine ow_nil ?_
  refine kw_code (fun _ _ h => h) ?_
  refine cw_false rfl (by first | rfl | exact decide_eq_false (by omega)) ?_
  refine cw_skip ?_
  refine kw_code (fun _ _ h => h) ?_
  refine cw_seq ?_
  refine cw_region ?_
  refine ow_y (y_move rfl) ?_
  refine ow_y (y_assert F.ni152 rfl) ?_
  refine ow_y (y_move rfl) ?_
  refine ow_y (y_ext rfl rfl) ?_
  refine ow_y (y_ext rfl rfl) ?_
  refine (ow_alloc F.z152 (fun b3 => ?_))
  refine (ow_storeAgg F.sz152 rfl rfl (by first | rfl | simp) (by simp [Value.oneCell']) (by simp [Value.cells]) (by simp [splice, Value.cells] <;> rfl) ?_)
  refine ow_y (y_assign rfl) ?_
  refine ow_nil ?_
  refine kw_code (fun _ _ h => h) ?_
  refine cw_seq ?_
  refine cw_seq ?_
  refine cw_region ?_
  refine ow_y (y_move rfl) ?_
  refine ow_y (y_not rfl) ?_
  refine ow_nil ?_
  refine kw_code (fun _ _ h => h) ?_
  refine cw_false rfl (by first | rfl | exact decide_eq_false (by omega)) ?_
  refine cw_skip ?_
  refine kw_code (fun _ _ h => h) ?_
  refine cw_region ?_
  refine ow_y (y_move rfl) ?_
  refine ow_y (y_fld F.fld152_0 rfl) ?_
  refine ow_y (y_load F.sc27 rfl (by rfl)) ?_
  refine ow_y (y_nil rfl) ?_
  refine (ow_store F.sz27 rfl rfl (by first | rfl | assumption) (by rfl) (by (try simp only [List.set_cons_zero, List.set_cons_succ, Nat.reduceAdd, Nat.reduceMul, Int.reduceToNat, Nat.zero_add, Nat.add_zero]); rfl) ?_)
  refine ow_nil ?_
  refine kw_fin rfl (Split.back aSp) ⟨⟨_, rfl⟩, rfl, rfl⟩
theorem Split.mid {A F : Asrt} {Pre : List Asrt} : Split (A :: (Pre ++ [F])) Pre [A, F] := List.perm_middle.symm.trans (List.Perm.refl _)
theorem try_spec {X Y : Type} (b : Nat) (g : FuncId) (cap : List Value) (Pre : List Asrt) (p : X → Prop) (v : X → Value) (N : X → List Asrt) (q : Y → Prop) (er : Y → Int) (N' : Y → List Asrt) (e0 : Int)
    (hb : hasBody Tryz.prog g = true) (hg : Does Tryz.prog g cap.toArray Pre (GivesF p v N q (fun y => fault (er y)) N')) :
    Does Tryz.prog 153 #[.func (.func g) #[] cap.toArray, .pointer (some ⟨b, 0, none⟩)] (pts b (.cells #[.int .i64 e0] 27 (0, 0)) :: Pre)
      (GivesE (fun z : X ⊕ Y => match z with | .inl x => p x | .inr y => q y) (fun _ => .tuple #[]) (fun z => match z with | .inl x => pts b (.cells #[.int .i64 e0] 27 (0, 0)) :: N x | .inr y => pts b (.cells #[.int .i64 (er y)] 27 (0, 0)) :: N' y)) := by
  refine does_enterD (args := [_, _]) Tryz.func153 rfl Tryz.ntmps153 rfl (fun R w0 => ?_)
  simp only [envOf, List.cons_append, List.nil_append]
  refine cw_seq ?_
  refine cw_region ?_
  refine ow_y (y_move rfl) ?_
  refine ow_defer (f := 192) (first := []) (cap := []) rfl rfl ?_
  refine ow_nil ?_
  refine kw_code (fun _ _ h => h) ?_
  refine cw_region ?_
  refine ow_y (y_move rfl) ?_
  refine ow_givesF (first := []) (cap := cap) (vs := []) rfl hb rfl hg Split.mid ?_ ?_
  · intro x hx
    refine ow_nil ?_
    refine kw_leaveD (f := 192) (cap := []) (args := [.pointer (some ⟨b, 0, none⟩)]) (u := .returning) (.inl ⟨.inl rfl, rfl⟩) (fun _ _ h => h) rfl F.hb192 (catch_ok b (.cells #[.int .i64 e0] 27 (0, 0))) (M := N x ++ [R]) (L' := pts b (.cells #[.int .i64 e0] 27 (0, 0)) :: N x) (R := []) ?_ ?_ ⟨.inl x, hx, rfl, rfl⟩
    · exact List.perm_middle
    · show List.Perm ([_] ++ (N x ++ [R])) ((R :: _ :: N x) ++ [])
      rw [List.append_nil, ← List.append_assoc]
      exact List.perm_append_comm
  · intro y hy
    refine kw_leaveD (f := 192) (cap := []) (args := [.pointer (some ⟨b, 0, none⟩)]) (u := .panicking (fault (er y))) (.inr ⟨_, rfl, rfl⟩) (fun _ _ h => h) rfl F.hb192 (catch_fault b (er y) e0) (M := N' y ++ [R]) (L' := pts b (.cells #[.int .i64 (er y)] 27 (0, 0)) :: N' y) (R := []) ?_ ?_ ⟨.inr y, hy, rfl, rfl⟩
    · exact List.perm_middle
    · show List.Perm ([_] ++ (N' y ++ [R])) ((R :: _ :: N' y) ++ [])
      rw [List.append_nil, ← List.append_assoc]
      exact List.perm_append_comm
theorem guard_spec {X Y : Type} (g : FuncId) (cap : List Value) (Pre : List Asrt) (p : X → Prop) (v : X → Value) (N : X → List Asrt) (q : Y → Prop) (er : Y → Int) (N' : Y → List Asrt)
    (hb : hasBody Tryz.prog g = true) (hg : Does Tryz.prog g cap.toArray Pre (GivesF p v N q (fun y => fault (er y)) N')) :
    Does Tryz.prog 105 #[.func (.func g) #[] cap.toArray] Pre
      (GivesE (fun z : X ⊕ Y => match z with | .inl x => p x | .inr y => q y) (fun z => match z with | .inl _ => .int .i64 0 | .inr y => .int .i64 (er y)) (fun z => match z with | .inl x => N x | .inr y => N' y)) := by
  refine does_enter Tryz.func105 rfl Tryz.ntmps105 rfl (fun R w0 => ?_)
  simp only [envOf, List.cons_append, List.nil_append]
  refine cw_seq ?_
  refine cw_region ?_
  refine ow_y (y_assign rfl) ?_
  refine ow_nil ?_
  refine kw_code (fun _ _ h => h) ?_
  refine cw_seq ?_
  refine cw_region ?_
  refine (ow_alloc F.z27 (fun b3 => ?_))
  refine (ow_store F.sz27 rfl rfl (by first | rfl | assumption) (by rfl) (by (try simp only [List.set_cons_zero, List.set_cons_succ, Nat.reduceAdd, Nat.reduceMul, Int.reduceToNat, Nat.zero_add, Nat.add_zero]); rfl) ?_)
  refine ow_nil ?_
  refine kw_code (fun _ _ h => h) ?_
  refine cw_seq ?_
  refine cw_region ?_
  refine ow_y (y_move rfl) ?_
  refine ow_givesE (first := []) (cap := []) rfl F.hb153 rfl (try_spec b3 g cap Pre p v N q er N' 0 hb hg) (M := [R]) (List.Perm.refl _) ?_
  have hsp : ∀ (A : Asrt) (M : List Asrt), Split (A :: (M ++ [R])) (R :: M) [A] := fun A M => by
    show List.Perm _ ((R :: M) ++ [A])
    have h1 : List.Perm (A :: (M ++ [R])) ((M ++ [R]) ++ [A]) := List.perm_append_comm (l₁ := [A])
    exact h1.trans ((List.perm_append_comm (l₁ := M) (l₂ := [R])).append_right [A])
  rintro (x | y) hz
  · simp only [List.cons_append, List.nil_append]
    refine ow_nil ?_
    refine kw_code (fun _ _ h => h) ?_
    refine cw_seq ?_
    refine cw_region ?_
    refine ow_y (y_load F.sc27 rfl (by rfl)) ?_
    refine ow_y (y_assign rfl) ?_
    refine ow_nil ?_
    refine kw_code (fun _ _ h => h) ?_
    exact cw_retE (.inl x) hz (fun _ _ h => h) rfl rfl (hsp _ _)
  · simp only [List.cons_append, List.nil_append]
    refine ow_nil ?_
    refine kw_code (fun _ _ h => h) ?_
    refine cw_seq ?_
    refine cw_region ?_
    refine ow_y (y_load F.sc27 rfl (by rfl)) ?_
    refine ow_y (y_assign rfl) ?_
    refine ow_nil ?_
    refine kw_code (fun _ _ h => h) ?_
    exact cw_retE (.inr y) hz (fun _ _ h => h) rfl rfl (hsp _ _)
end Go.Proofs.YthlclfdnhnnebaaGreatDoor
end
