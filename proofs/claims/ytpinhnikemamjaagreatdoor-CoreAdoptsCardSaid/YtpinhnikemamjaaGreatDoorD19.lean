/- Part of the proof; no statement of its own. -/
import Derived.Test.YtpinhnikemamjaaGreatDoorProg
import Derived.KernelRfl
import Derived.Test.YtpinhnikemamjaaGreatDoorD08
import Derived.Test.YtpinhnikemamjaaGreatDoorD05
set_option linter.all false
set_option maxRecDepth 4000
set_option maxHeartbeats 4000000
attribute [local irreducible] Go.Sl.a0P Go.Sl.OW Go.Sl.CW Go.Sl.OS Go.Sl.OM Go.Sl.OMf Go.Sl.KM
namespace Go.Proofs.Q
open Go Go.Sl Tryz
instance:Ag prog 50 6:=⟨kr⟩
instance:Fl prog 50 0 0:=⟨kr⟩
instance:Fl prog 50 4 4:=⟨kr⟩
instance:Fl prog 59 1 1:=⟨kr⟩
instance:Fl prog 59 2 2:=⟨kr⟩
instance:Fol prog:=⟨kr⟩
instance:Hb prog 89:=⟨kr⟩
instance:c0Y prog 57 47 50:=⟨kr⟩
instance:Sc prog 3:=⟨kr⟩
instance:Sc prog 47:=⟨kr⟩
instance:Sc prog 56:=⟨kr⟩
instance:Sc prog 57:=⟨kr⟩
instance:Tsl prog 96 50 6:=⟨kr⟩
instance:Sz prog 50 6:=⟨kr⟩
instance:Zr prog 50 (.agg #[.int .u32 0,.int .u32 0,.bool false,.int .i64 0,.int .i64 0,.int .u32 0]):=⟨kr⟩
instance:Ag prog 230 40:=⟨kr⟩
instance:Tar prog 228 4 47 1:=⟨kr⟩
instance:Fl prog 230 1 4:=⟨kr⟩
instance:Fl prog 92 1 1:=⟨kr⟩
instance:Hb prog 160:=⟨kr⟩
instance:Hb prog 198:=⟨kr⟩
instance:Hb prog 199:=⟨kr⟩
instance:Hb prog 202:=⟨kr⟩
instance:Hb prog 203:=⟨kr⟩
instance:Hb prog 204:=⟨kr⟩
instance:Pl prog 230 ([(0,4),(4,4),(8,32)],.agg #[.int .i64 0,.int .i64 0,.int .i64 0,.int .i64 0,.int .u32 0,.int .u32 0,.int .u32 0,.int .u32 0,.int .u8 0,.int .u8 0,.int .u8 0,.int .u8 0,.int .u8 0,.int .u8 0,.int .u8 0,.int .u8 0,.int .u8 0,.int .u8 0,.int .u8 0,.int .u8 0,.int .u8 0,.int .u8 0,.int .u8 0,.int .u8 0,.int .u8 0,.int .u8 0,.int .u8 0,.int .u8 0,.int .u8 0,.int .u8 0,.int .u8 0,.int .u8 0,.int .u8 0,.int .u8 0,.int .u8 0,.int .u8 0,.int .u8 0,.int .u8 0,.int .u8 0,.int .u8 0]):=⟨kr⟩
instance:Sc prog 87:=⟨kr⟩
instance:Tsl prog 261 9 1:=⟨kr⟩
instance:Tst prog 9:=⟨kr⟩
instance:Sz prog 3 1:=⟨kr⟩
instance:Sz prog 47 1:=⟨kr⟩
instance:Zr prog 9 (.string ByteArray.empty):=⟨kr⟩
instance:Ag prog 306 8:=⟨kr⟩
instance:Tar prog 306 8 47 1:=⟨kr⟩
instance:Fl prog 308 0 0:=⟨kr⟩
instance:Fl prog 308 1 8:=⟨kr⟩
instance:Fl prog 308 2 9:=⟨kr⟩
instance:Hb prog 246:=⟨kr⟩
instance:Hb prog 247:=⟨kr⟩
instance:Sc prog 147:=⟨kr⟩
instance:Sc prog 9:=⟨kr⟩
instance:Tsn prog 147:=⟨kr⟩
instance:Tsn prog 47:=⟨kr⟩
instance:Pl prog 308 ([(0,8),(8,1),(9,1)],.agg #[.int .u32 0,.int .u32 0,.int .u32 0,.int .u32 0,.int .u32 0,.int .u32 0,.int .u32 0,.int .u32 0,.slice none 0 0,.int .u64 0]):=⟨kr⟩
instance:Zr prog 306 (.agg #[.int .u32 0,.int .u32 0,.int .u32 0,.int .u32 0,.int .u32 0,.int .u32 0,.int .u32 0,.int .u32 0]):=⟨kr⟩
instance:Ag prog 343 64:=⟨kr⟩
instance:Tar prog 343 64 47 1:=⟨kr⟩
instance:Hb prog 294:=⟨kr⟩
instance:Hb prog 295:=⟨kr⟩
instance:Sz prog 306 8:=⟨kr⟩
instance:Sz prog 343 64:=⟨kr⟩
instance:Zr prog 343 (.agg #[.int .u32 0,.int .u32 0,.int .u32 0,.int .u32 0,.int .u32 0,.int .u32 0,.int .u32 0,.int .u32 0,.int .u32 0,.int .u32 0,.int .u32 0,.int .u32 0,.int .u32 0,.int .u32 0,.int .u32 0,.int .u32 0,.int .u32 0,.int .u32 0,.int .u32 0,.int .u32 0,.int .u32 0,.int .u32 0,.int .u32 0,.int .u32 0,.int .u32 0,.int .u32 0,.int .u32 0,.int .u32 0,.int .u32 0,.int .u32 0,.int .u32 0,.int .u32 0,.int .u32 0,.int .u32 0,.int .u32 0,.int .u32 0,.int .u32 0,.int .u32 0,.int .u32 0,.int .u32 0,.int .u32 0,.int .u32 0,.int .u32 0,.int .u32 0,.int .u32 0,.int .u32 0,.int .u32 0,.int .u32 0,.int .u32 0,.int .u32 0,.int .u32 0,.int .u32 0,.int .u32 0,.int .u32 0,.int .u32 0,.int .u32 0,.int .u32 0,.int .u32 0,.int .u32 0,.int .u32 0,.int .u32 0,.int .u32 0,.int .u32 0,.int .u32 0]):=⟨kr⟩
instance:Fl prog 119 1 1:=⟨kr⟩
instance:Sc prog 113:=⟨kr⟩
instance:Tsl prog 113 5 1:=⟨kr⟩
instance:Ag prog 301 256:=⟨kr⟩
instance:Tar prog 301 8 44 32:=⟨kr⟩
instance:Tby prog 5:=⟨kr⟩
theorem F.eb301:Sl.x0V prog 301 8 32 .u8=true:=by kernel_rfl
instance:Hb prog 14:=⟨kr⟩
instance:Tin prog 5 .u8:=⟨kr⟩
instance:Ttb prog 9 16:=⟨kr⟩
instance:Tsn prog 3:=⟨kr⟩
instance:Zr prog 301 (.agg #[.int .u8 0,.int .u8 0,.int .u8 0,.int .u8 0,.int .u8 0,.int .u8 0,.int .u8 0,.int .u8 0,.int .u8 0,.int .u8 0,.int .u8 0,.int .u8 0,.int .u8 0,.int .u8 0,.int .u8 0,.int .u8 0,.int .u8 0,.int .u8 0,.int .u8 0,.int .u8 0,.int .u8 0,.int .u8 0,.int .u8 0,.int .u8 0,.int .u8 0,.int .u8 0,.int .u8 0,.int .u8 0,.int .u8 0,.int .u8 0,.int .u8 0,.int .u8 0,.int .u8 0,.int .u8 0,.int .u8 0,.int .u8 0,.int .u8 0,.int .u8 0,.int .u8 0,.int .u8 0,.int .u8 0,.int .u8 0,.int .u8 0,.int .u8 0,.int .u8 0,.int .u8 0,.int .u8 0,.int .u8 0,.int .u8 0,.int .u8 0,.int .u8 0,.int .u8 0,.int .u8 0,.int .u8 0,.int .u8 0,.int .u8 0,.int .u8 0,.int .u8 0,.int .u8 0,.int .u8 0,.int .u8 0,.int .u8 0,.int .u8 0,.int .u8 0,.int .u8 0,.int .u8 0,.int .u8 0,.int .u8 0,.int .u8 0,.int .u8 0,.int .u8 0,.int .u8 0,.int .u8 0,.int .u8 0,.int .u8 0,.int .u8 0,.int .u8 0,.int .u8 0,.int .u8 0,.int .u8 0,.int .u8 0,.int .u8 0,.int .u8 0,.int .u8 0,.int .u8 0,.int .u8 0,.int .u8 0,.int .u8 0,.int .u8 0,.int .u8 0,.int .u8 0,.int .u8 0,.int .u8 0,.int .u8 0,.int .u8 0,.int .u8 0,.int .u8 0,.int .u8 0,.int .u8 0,.int .u8 0,.int .u8 0,.int .u8 0,.int .u8 0,.int .u8 0,.int .u8 0,.int .u8 0,.int .u8 0,.int .u8 0,.int .u8 0,.int .u8 0,.int .u8 0,.int .u8 0,.int .u8 0,.int .u8 0,.int .u8 0,.int .u8 0,.int .u8 0,.int .u8 0,.int .u8 0,.int .u8 0,.int .u8 0,.int .u8 0,.int .u8 0,.int .u8 0,.int .u8 0,.int .u8 0,.int .u8 0,.int .u8 0,.int .u8 0,.int .u8 0,.int .u8 0,.int .u8 0,.int .u8 0,.int .u8 0,.int .u8 0,.int .u8 0,.int .u8 0,.int .u8 0,.int .u8 0,.int .u8 0,.int .u8 0,.int .u8 0,.int .u8 0,.int .u8 0,.int .u8 0,.int .u8 0,.int .u8 0,.int .u8 0,.int .u8 0,.int .u8 0,.int .u8 0,.int .u8 0,.int .u8 0,.int .u8 0,.int .u8 0,.int .u8 0,.int .u8 0,.int .u8 0,.int .u8 0,.int .u8 0,.int .u8 0,.int .u8 0,.int .u8 0,.int .u8 0,.int .u8 0,.int .u8 0,.int .u8 0,.int .u8 0,.int .u8 0,.int .u8 0,.int .u8 0,.int .u8 0,.int .u8 0,.int .u8 0,.int .u8 0,.int .u8 0,.int .u8 0,.int .u8 0,.int .u8 0,.int .u8 0,.int .u8 0,.int .u8 0,.int .u8 0,.int .u8 0,.int .u8 0,.int .u8 0,.int .u8 0,.int .u8 0,.int .u8 0,.int .u8 0,.int .u8 0,.int .u8 0,.int .u8 0,.int .u8 0,.int .u8 0,.int .u8 0,.int .u8 0,.int .u8 0,.int .u8 0,.int .u8 0,.int .u8 0,.int .u8 0,.int .u8 0,.int .u8 0,.int .u8 0,.int .u8 0,.int .u8 0,.int .u8 0,.int .u8 0,.int .u8 0,.int .u8 0,.int .u8 0,.int .u8 0,.int .u8 0,.int .u8 0,.int .u8 0,.int .u8 0,.int .u8 0,.int .u8 0,.int .u8 0,.int .u8 0,.int .u8 0,.int .u8 0,.int .u8 0,.int .u8 0,.int .u8 0,.int .u8 0,.int .u8 0,.int .u8 0,.int .u8 0,.int .u8 0,.int .u8 0,.int .u8 0,.int .u8 0,.int .u8 0,.int .u8 0,.int .u8 0,.int .u8 0,.int .u8 0,.int .u8 0,.int .u8 0,.int .u8 0,.int .u8 0,.int .u8 0,.int .u8 0,.int .u8 0,.int .u8 0,.int .u8 0,.int .u8 0,.int .u8 0,.int .u8 0,.int .u8 0,.int .u8 0,.int .u8 0,.int .u8 0,.int .u8 0]):=⟨kr⟩
instance:Sc prog 5:=⟨kr⟩
instance:Sz prog 5 1:=⟨kr⟩
instance:Tin prog 166 .u64:=⟨kr⟩
instance:Tin prog 47 .u32:=⟨kr⟩
instance:Tsn prog 5:=⟨kr⟩
instance:Tar prog 180 8 3 1:=⟨kr⟩
theorem F.fa182_1:Sl.n0R prog 182 1 1 8 true=true:=by kernel_rfl
instance:Fl prog 194 0 0:=⟨kr⟩
instance:Fl prog 194 1 1:=⟨kr⟩
instance:Hb prog 108:=⟨kr⟩
instance:Hb prog 133:=⟨kr⟩
instance:Hb prog 176:=⟨kr⟩
instance:Hb prog 177:=⟨kr⟩
instance:Sc prog 150:=⟨kr⟩
instance:Sc prog 55:=⟨kr⟩
instance:Ag prog 180 8:=⟨kr⟩
instance:Fl prog 182 1 1:=⟨kr⟩
instance:Hb prog 170:=⟨kr⟩
instance:Hb prog 196:=⟨kr⟩
instance:Hb prog 206:=⟨kr⟩
instance:Hb prog 207:=⟨kr⟩
instance:Sz prog 182 41:=⟨kr⟩
instance:Zr prog 182 (.agg #[.int .i64 0,.int .i64 0,.int .i64 0,.int .i64 0,.int .i64 0,.int .i64 0,.int .i64 0,.int .i64 0,.int .i64 0,.int .u8 0,.int .u8 0,.int .u8 0,.int .u8 0,.int .u8 0,.int .u8 0,.int .u8 0,.int .u8 0,.int .u8 0,.int .u8 0,.int .u8 0,.int .u8 0,.int .u8 0,.int .u8 0,.int .u8 0,.int .u8 0,.int .u8 0,.int .u8 0,.int .u8 0,.int .u8 0,.int .u8 0,.int .u8 0,.int .u8 0,.int .u8 0,.int .u8 0,.int .u8 0,.int .u8 0,.int .u8 0,.int .u8 0,.int .u8 0,.int .u8 0,.int .u8 0]):=⟨kr⟩
theorem F.ea180:Sl.x0D prog 180 8 .i64=true:=by kernel_rfl
instance:Hb prog 194:=⟨kr⟩
instance:Zr prog 180 (.agg #[.int .i64 0,.int .i64 0,.int .i64 0,.int .i64 0,.int .i64 0,.int .i64 0,.int .i64 0,.int .i64 0]):=⟨kr⟩
instance:Ag prog 227 4:=⟨kr⟩
instance:Ag prog 44 32:=⟨kr⟩
instance:Tar prog 227 4 3 1:=⟨kr⟩
instance:Fl prog 210 0 0:=⟨kr⟩
instance:Fl prog 210 1 1:=⟨kr⟩
instance:Fl prog 210 2 2:=⟨kr⟩
instance:Fl prog 230 0 0:=⟨kr⟩
instance:Fl prog 230 2 8:=⟨kr⟩
instance:Hb prog 159:=⟨kr⟩
instance:Hb prog 200:=⟨kr⟩
instance:Hb prog 67:=⟨kr⟩
instance:c0Y prog 208 44 3:=⟨kr⟩
instance:Sc prog 208:=⟨kr⟩
instance:Sz prog 230 40:=⟨kr⟩
instance:Sz prog 44 32:=⟨kr⟩
instance:Zr prog 230 (.agg #[.int .i64 0,.int .i64 0,.int .i64 0,.int .i64 0,.int .u32 0,.int .u32 0,.int .u32 0,.int .u32 0,.int .u8 0,.int .u8 0,.int .u8 0,.int .u8 0,.int .u8 0,.int .u8 0,.int .u8 0,.int .u8 0,.int .u8 0,.int .u8 0,.int .u8 0,.int .u8 0,.int .u8 0,.int .u8 0,.int .u8 0,.int .u8 0,.int .u8 0,.int .u8 0,.int .u8 0,.int .u8 0,.int .u8 0,.int .u8 0,.int .u8 0,.int .u8 0,.int .u8 0,.int .u8 0,.int .u8 0,.int .u8 0,.int .u8 0,.int .u8 0,.int .u8 0,.int .u8 0]):=⟨kr⟩
instance:Zr prog 3 (.int .i64 0):=⟨kr⟩
instance:Zr prog 44 (.agg #[.int .u8 0,.int .u8 0,.int .u8 0,.int .u8 0,.int .u8 0,.int .u8 0,.int .u8 0,.int .u8 0,.int .u8 0,.int .u8 0,.int .u8 0,.int .u8 0,.int .u8 0,.int .u8 0,.int .u8 0,.int .u8 0,.int .u8 0,.int .u8 0,.int .u8 0,.int .u8 0,.int .u8 0,.int .u8 0,.int .u8 0,.int .u8 0,.int .u8 0,.int .u8 0,.int .u8 0,.int .u8 0,.int .u8 0,.int .u8 0,.int .u8 0,.int .u8 0]):=⟨kr⟩
instance:Ag prog 182 41:=⟨kr⟩
instance:Hb prog 151:=⟨kr⟩
instance:Hb prog 152:=⟨kr⟩
instance:Hb prog 201:=⟨kr⟩
instance:Hb prog 222:=⟨kr⟩
instance:Pl prog 182 ([(0,1),(1,8),(9,32)],.agg #[.int .i64 0,.int .i64 0,.int .i64 0,.int .i64 0,.int .i64 0,.int .i64 0,.int .i64 0,.int .i64 0,.int .i64 0,.int .u8 0,.int .u8 0,.int .u8 0,.int .u8 0,.int .u8 0,.int .u8 0,.int .u8 0,.int .u8 0,.int .u8 0,.int .u8 0,.int .u8 0,.int .u8 0,.int .u8 0,.int .u8 0,.int .u8 0,.int .u8 0,.int .u8 0,.int .u8 0,.int .u8 0,.int .u8 0,.int .u8 0,.int .u8 0,.int .u8 0,.int .u8 0,.int .u8 0,.int .u8 0,.int .u8 0,.int .u8 0,.int .u8 0,.int .u8 0,.int .u8 0,.int .u8 0]):=⟨kr⟩
instance:Tar prog 44 32 5 1:=⟨kr⟩
theorem F.fa230_2:Sl.n0R prog 230 2 8 32 true=true:=by kernel_rfl
instance:Hb prog 192:=⟨kr⟩
instance:Fl prog 182 2 9:=⟨kr⟩
instance:Hb prog 128:=⟨kr⟩
instance:Hb prog 129:=⟨kr⟩
instance:Hb prog 130:=⟨kr⟩
instance:Hb prog 185:=⟨kr⟩
instance:Hb prog 186:=⟨kr⟩
instance:Tin prog 3 .i64:=⟨kr⟩
instance:Hb prog 281:=⟨kr⟩
instance:Tin prog 147 .u64:=⟨kr⟩
instance:Sz prog 147 1:=⟨kr⟩
instance:Fl prog 182 0 0:=⟨kr⟩
instance:Hb prog 252:=⟨kr⟩
instance:Hb prog 81:=⟨kr⟩
instance:Hb prog 82:=⟨kr⟩
instance:Hb prog 83:=⟨kr⟩
instance:Zr prog 144 (.agg #[.slice none 0 0]):=⟨kr⟩
instance:Ag prog 228 4:=⟨kr⟩
instance:Fl prog 144 0 0:=⟨kr⟩
instance:Fl prog 250 0 0:=⟨kr⟩
instance:Hb prog 224:=⟨kr⟩
instance:Sz prog 9 1:=⟨kr⟩
instance:Fl prog 92 2 2:=⟨kr⟩
instance:Fl prog 92 3 3:=⟨kr⟩
instance:Hb prog 209:=⟨kr⟩
instance:c0Y prog 89 3 3:=⟨kr⟩
instance:Sc prog 88:=⟨kr⟩
instance:Sc prog 89:=⟨kr⟩
instance:Fl prog 92 0 0:=⟨kr⟩
instance:Fl prog 92 4 4:=⟨kr⟩
instance:Fl prog 92 6 6:=⟨kr⟩
instance:Hb prog 165:=⟨kr⟩
instance:Hb prog 248:=⟨kr⟩
instance:Hb prog 249:=⟨kr⟩
instance:Hb prog 250:=⟨kr⟩
instance:Hb prog 251:=⟨kr⟩
instance:Hb prog 57:=⟨kr⟩
instance:Sc prog 86:=⟨kr⟩
instance:Fl prog 92 5 5:=⟨kr⟩
instance:Hb prog 257:=⟨kr⟩
instance:Hb prog 258:=⟨kr⟩
instance:Hb prog 260:=⟨kr⟩
instance:Sc prog 90:=⟨kr⟩
instance:Tsl prog 90 3 1:=⟨kr⟩
instance:Ttb prog 3 8:=⟨kr⟩
instance:Hb prog 105:=⟨kr⟩
instance:Hb prog 106:=⟨kr⟩
instance:Hb prog 107:=⟨kr⟩
instance:Hb prog 149:=⟨kr⟩
instance:Hb prog 150:=⟨kr⟩
instance:Sz prog 90 1:=⟨kr⟩
instance:Hb prog 162:=⟨kr⟩
instance:Fl prog 154 1 1:=⟨kr⟩
instance:Hb prog 104:=⟨kr⟩
instance:Hb prog 187:=⟨kr⟩
instance:Hb prog 63:=⟨kr⟩
instance:Sz prog 89 1:=⟨kr⟩
instance:Fl prog 173 0 0:=⟨kr⟩
instance:Fl prog 175 1 1:=⟨kr⟩
instance:Hb prog 225:=⟨kr⟩
instance:Hb prog 226:=⟨kr⟩
instance:Sc prog 171:=⟨kr⟩
instance:Tsl prog 171 175 2:=⟨kr⟩
instance:Fl prog 173 1 1:=⟨kr⟩
instance:Fl prog 173 2 2:=⟨kr⟩
instance:Fl prog 173 3 3:=⟨kr⟩
instance:Sc prog 4:=⟨kr⟩
instance:Sz prog 4 1:=⟨kr⟩
instance:Fl prog 154 0 0:=⟨kr⟩
instance:Hb prog 147:=⟨kr⟩
instance:Hb prog 148:=⟨kr⟩
instance:Hb prog 34:=⟨kr⟩
instance:Sc prog 152:=⟨kr⟩
instance:Tsl prog 152 1 1:=⟨kr⟩
instance:Sz prog 152 1:=⟨kr⟩
instance:Sc prog 1:=⟨kr⟩
instance:Hb prog 166:=⟨kr⟩
instance:Hb prog 169:=⟨kr⟩
instance:Hb prog 195:=⟨kr⟩
instance:Hb prog 221:=⟨kr⟩
instance:Hb prog 253:=⟨kr⟩
instance:Hb prog 259:=⟨kr⟩
instance:Hb prog 279:=⟨kr⟩
instance:Hb prog 282:=⟨kr⟩
instance:Hb prog 284:=⟨kr⟩
instance:Hb prog 286:=⟨kr⟩
instance:Hb prog 287:=⟨kr⟩
instance:Hb prog 167:=⟨kr⟩
instance:Hb prog 254:=⟨kr⟩
instance:Hb prog 283:=⟨kr⟩
instance:Sc prog 236:=⟨kr⟩
instance:Sc prog 256:=⟨kr⟩
instance:Sc prog 319:=⟨kr⟩
instance:Zr prog 90 (.slice none 0 0):=⟨kr⟩
instance:Zr prog 4 (.bool false):=⟨kr⟩
theorem F.ka44:Sl.x0U prog 44 32 5=true:=by kernel_rfl
instance:Zr prog 47 (.int .u32 0):=⟨kr⟩
instance:Ttb prog 1 8:=⟨kr⟩
instance:Zr prog 1 (.nilFunc):=⟨kr⟩
instance:Fl prog 70 0 0:=⟨kr⟩
instance:Fl prog 70 1 1:=⟨kr⟩
instance:Fl prog 70 2 2:=⟨kr⟩
instance:Fl prog 70 3 3:=⟨kr⟩
instance:Fl prog 70 4 4:=⟨kr⟩
instance:Hb prog 113:=⟨kr⟩
instance:Sz prog 113 1:=⟨kr⟩
instance:Ttb prog 5 1:=⟨kr⟩
instance:Zr prog 5 (.int .u8 0):=⟨kr⟩
instance:Ag prog 70 5:=⟨kr⟩
instance:Hb prog 79:=⟨kr⟩
instance:Hb prog 80:=⟨kr⟩
instance:Sz prog 70 5:=⟨kr⟩
instance:Zr prog 70 (.agg #[.int .i64 0,.int .u32 0,.int .i64 0,.int .i64 0,.string ByteArray.empty]):=⟨kr⟩
instance:Hb prog 131:=⟨kr⟩
instance:Pl prog 70 ([(0,1),(1,1),(2,1),(3,1),(4,1)],.agg #[.int .i64 0,.int .u32 0,.int .i64 0,.int .i64 0,.string ByteArray.empty]):=⟨kr⟩
instance:Pl prog 250 ([(0,1)],.agg #[.string ByteArray.empty]):=⟨kr⟩
instance:Fl prog 199 0 0:=⟨kr⟩
instance:Hb prog 132:=⟨kr⟩
instance:Hb prog 88:=⟨kr⟩
theorem F.if20:Sl.n1R prog 20=true:=by kernel_rfl
theorem F.ni199:(match prog.underlying 199 with|some (.interface _)|none=>false|_=>true)=true:=by kernel_rfl
instance:Pl prog 199 ([(0,1)],.agg #[.int .i64 0]):=⟨kr⟩
instance:Sc prog 29:=⟨kr⟩
instance:Sz prog 199 1:=⟨kr⟩
instance:Sz prog 29 1:=⟨kr⟩
instance:Zr prog 199 (.agg #[.int .i64 0]):=⟨kr⟩
instance:Zr prog 29 (.int .i64 0):=⟨kr⟩
end Go.Proofs.Q
namespace Go.Proofs.Q
open Go.Sl Tryz
def v0J (e:Int):List PanicEntry:= [{v:= .iface 199 (.agg #[.int .i64 e]),recovered:=false}]
def z2S (e:Int):Ending→List a0E→Prop:=fun en L=>en= .panicked (v0J e)∧L= []
theorem c0M (e:Int):a0G prog 67 #[.int .i64 e] [] (z2S e):=by
 refine en func67 ntmps67 fun R w0=> ?_;refine go 3 ?_;refine a0D (s2V F.ni199 rfl) ?_;refine(n2W rfl ?_);refine pn ?_;refine d0U idh (b0A.back gSp) ⟨rfl,rfl⟩
theorem p2D (b:Nat) (o:Obj):b1K prog 132 #[.pointer (some ⟨b,0,none⟩)] .returning [pts b o] (fun e a L'=>(∃v,e= .returned v)∧settle a= .returning∧L'= [pts b o]):=by
 refine p1L (args:= [.pointer (some ⟨b,0,none⟩)]) func132 rfl ntmps132 rfl rfl rfl (fun R w0=> ?_);simp only[r0W,j0X,List.cons_append,List.nil_append];refine go 4 ?_;refine a0D (s1R F.if20 rfl rfl) ?_;refine go 3 ?_;refine s0A (k1T idh rfl (b0A.back gSp) ⟨⟨_,rfl⟩,rfl,rfl⟩)
theorem y1X (b:Nat) (e e0:Int):b1K prog 132 #[.pointer (some ⟨b,0,none⟩)] (.panicking (v0J e)) [pts b (.cells #[.int .i64 e0] 29 (0,0))]
 (fun a c L'=>(∃v,a= .returned v)∧settle c= .returning∧L'= [pts b (.cells #[.int .i64 e] 29 (0,0))]):=by
 refine p1L (args:= [.pointer (some ⟨b,0,none⟩)]) func132 rfl ntmps132 rfl rfl rfl (fun R w0=> ?_);simp only[r0W,v0J,j0X,List.cons_append,List.nil_append];refine go 4 ?_;refine a0D (s1R F.if20 rfl rfl) ?_;refine go 8 ?_;refine a0D (n2X F.ni199 rfl) ?_;refine go 3 ?_;refine al fun d=> ?_;refine(a0M Sz.o rfl rfl (by first|rfl|simp) (by simp[Value.oneCell']) (by simp[Value.cells]) (by simp[j0I,Value.cells]<;>rfl) ?_);refine go 20 ?_;refine x0Q rfl (b0A.back gSp) ⟨⟨_,rfl⟩,rfl,rfl⟩
theorem b0A.mid {A F:a0E} {Pre:List a0E} :b0A (A::(Pre++ [F])) Pre [A,F]:=List.perm_middle.symm.trans (List.Perm.refl _)
theorem p2E {X Y:Type} (b:Nat) (g:FuncId) (cap:List Value) (Pre:List a0E) (p:X→Prop) (v:X→Value) (N:X→List a0E) (q:Y→Prop) (er:Y→Int) (a:Y→List a0E) (e0:Int)
 (hb:f0H prog g=true) (c:a0G prog g cap.toArray Pre (s1N p v N q (fun y=>v0J (er y)) a)):
 a0G prog 88 #[.func (.func g) #[] cap.toArray,.pointer (some ⟨b,0,none⟩)] (pts b (.cells #[.int .i64 e0] 29 (0,0))::Pre)
  (b0P (fun z:X ⊕ Y=>match z with| .inl x=>p x| .inr y=>q y) (fun _=> .tuple #[]) (fun z=>match z with| .inl x=>pts b (.cells #[.int .i64 e0] 29 (0,0))::N x| .inr y=>pts b (.cells #[.int .i64 (er y)] 29 (0,0))::a y)):=by
 refine z0P (args:= [_,_]) func88 rfl ntmps88 rfl (fun R w0=> ?_);simp only[j0X,List.cons_append,List.nil_append];refine go 3 ?_;refine i1O (f:=132) (first:= []) (cap:= []) rfl rfl ?_;refine go 4 ?_;refine i2J (first:= []) (cap:=cap) (vs:= []) rfl hb rfl c b0A.mid ?_ ?_
 ·intro x d;refine go 1 ?_;refine p1M (f:=132) (cap:= []) (args:= [.pointer (some ⟨b,0,none⟩)]) (u:= .returning) (.inl ⟨.inl rfl,rfl⟩) idh rfl Hb.o (p2D b (.cells #[.int .i64 e0] 29 (0,0))) (M:=N x++ [R]) (L':=pts b (.cells #[.int .i64 e0] 29 (0,0))::N x) (R:= []) ?_ ?_ ⟨.inl x,d,rfl,rfl⟩
  ·exact List.perm_middle
  ·show List.Perm ([_]++(N x++ [R])) ((R::_::N x)++ []);rw[List.append_nil,←List.append_assoc];exact List.perm_append_comm
 ·intro y e;refine p1M (f:=132) (cap:= []) (args:= [.pointer (some ⟨b,0,none⟩)]) (u:= .panicking (v0J (er y))) (.inr ⟨_,rfl,rfl⟩) idh rfl Hb.o (y1X b (er y) e0) (M:=a y++ [R]) (L':=pts b (.cells #[.int .i64 (er y)] 29 (0,0))::a y) (R:= []) ?_ ?_ ⟨.inr y,e,rfl,rfl⟩
  ·exact List.perm_middle
  ·show List.Perm ([_]++(a y++ [R])) ((R::_::a y)++ []);rw[List.append_nil,←List.append_assoc];exact List.perm_append_comm
theorem l1T {X Y:Type} (g:FuncId) (cap:List Value) (Pre:List a0E) (p:X→Prop) (v:X→Value) (N:X→List a0E) (q:Y→Prop) (er:Y→Int) (b:Y→List a0E)
 (hb:f0H prog g=true) (e:a0G prog g cap.toArray Pre (s1N p v N q (fun y=>v0J (er y)) b)):
 a0G prog 34 #[.func (.func g) #[] cap.toArray] Pre
  (b0P (fun z:X ⊕ Y=>match z with| .inl x=>p x| .inr y=>q y) (fun z=>match z with| .inl _=> .int .i64 0| .inr y=> .int .i64 (er y)) (fun z=>match z with| .inl x=>N x| .inr y=>b y)):=by
 refine en func34 ntmps34 fun R w0=> ?_;refine go 7 ?_;refine al fun c=> ?_;refine go 6 ?_;refine d0Z (first:= []) (cap:= []) rfl Hb.o rfl (p2E c g cap Pre p v N q er b 0 hb e) (M:= [R]) (List.Perm.refl _) ?_;have a: ∀(A:a0E) (M:List a0E),b0A (A::(M++ [R])) (R::M) [A]:=fun A M=>by
  show List.Perm _ ((R::M)++ [A]);have d:List.Perm (A::(M++ [R])) ((M++ [R])++ [A]):=List.perm_append_comm (l₁:= [A]);exact d.trans ((List.perm_append_comm (l₁:=M) (l₂:= [R])).append_right [A])
 rintro(x|y) hz
 ·refine ns ?_;refine go 8 ?_;exact g1I (.inl x) hz idh rfl rfl (a _ _)
 ·refine ns ?_;refine go 8 ?_;exact g1I (.inr y) hz idh rfl rfl (a _ _)
end Go.Proofs.Q
namespace Go.Proofs.Q
open Go.Sl Go.Sb Tryz
abbrev pin (b:Nat) (s:ByteArray):a0E:=pts b (.cells #[.string s] 250 (0,0))
theorem u2K (l:List UInt8) (i:Nat) (h:i<l.length):be (l.take (i+1))=be (l.take i)*256+l[i].toNat:=by
 simp only[be];rw[List.take_succ,List.getElem?_eq_getElem h,List.foldl_append];rfl
theorem l1U (l:List UInt8):be l<256^l.length:=by
 have: ∀(l:List UInt8) (n:Nat),l.foldl (fun n c=>n*256+c.toNat) n<(n+1)*256^l.length:=by
  intro l
  induction l with
  |nil=>intro n;simp
  |cons c l ih=>
   intro n;have a:=ih (n*256+c.toNat);have b:=c.toNat_lt;simp only[List.foldl_cons,List.length_cons,Nat.pow_succ];refine Nat.lt_of_lt_of_le a ?_;rw[Nat.mul_comm (256^l.length) 256,←Nat.mul_assoc];exact Nat.mul_le_mul_right _ (by omega)
 simpa [be] using this l 0
theorem p2F (l:List UInt8) (i:Nat) (hi:i<8):be (l.take i)*256<18446744073709551616:=by
 have b:=l1U (l.take i);have a:(l.take i).length≤7:=by simp;omega
 have c:256^(l.take i).length≤256^7:=Nat.pow_le_pow_right (by decide) a;omega
theorem q0Y (x:Int) (n:Nat) (h:x=n) (a:n<18446744073709551616):IntKind.u64.wrap x=(n:Int):=by
 subst h;simp only[IntKind.wrap,IntKind.bits,IntKind.signed,Bool.false_and,Bool.false_eq_true,if_false];exact Int.emod_eq_of_lt (Int.natCast_nonneg _) (by omega)
theorem z0G (s:ByteArray):a0G prog 128 #[.string s] [] (b0P (fun _:Nat=>True) (fun b=> .pointer (some ⟨b,0,none⟩)) (fun b=> [pin b s])):=by
 refine en func128 ntmps128 fun R w0=> ?_;refine go 9 ?_;refine bx fun a=> ?_;refine go 3 ?_;exact rE idh a trivial
theorem b2W (b:Nat) (s:ByteArray) (n:Nat) (a:n≤s.size) (c:s.size≤1000000):a0G prog 130 #[.pointer (some ⟨b,0,none⟩),.int .i64 n] [pin b s] (a0T (.string (s.extract 0 n)) [pin b (s.extract n s.size)]):=by
 refine en func130 ntmps130 fun R w0=> ?_;refine go 37 ?_;refine a0D (d1W Tst.o rfl rfl (by omega)) ?_;refine go 11 ?_;refine a0D (d1V Tst.o rfl rfl (by omega)) ?_;refine go 11 ?_;exact rG
theorem u1X (b:Nat) (s:ByteArray) (n:Nat) (a:s.size<n) (c:s.size≤1000000):a0G prog 130 #[.pointer (some ⟨b,0,none⟩),.int .i64 n] [pin b s] (fun en L=>en= .panicked (v0J 2)∧L= [pin b s]):=by
 refine en func130 ntmps130 fun R w0=> ?_;refine go 29 ?_;refine c0A rfl Hb.o rfl (c0M 2) gSp ?_;refine ns ?_;refine pn ?_;refine d0U idh (b0A.back gSp) ⟨rfl,rfl⟩
theorem u2L (b:Nat) (s:ByteArray) (k:Nat) (e:1≤k∧k≤8) (c:s.size<k) (d:s.size≤1000000):a0G prog 129 #[.pointer (some ⟨b,0,none⟩),.int .i64 k] [pin b s] (fun en L=>en= .panicked (v0J 2)∧L= [pin b s]):=by
 have a:min (max (k:Int) 1) 8=k:=by omega
 refine en func129 ntmps129 fun R w0=> ?_;refine go 17 ?_;rw[a];refine c0A rfl Hb.o rfl (u1X b s k c d) gSp ?_;refine ns ?_;refine pn ?_;refine d0U idh (b0A.back gSp) ⟨rfl,rfl⟩
theorem x2Y (b:Nat) (s:ByteArray) (k:Nat) (t:1≤k∧k≤8) (q:k≤s.size) (r:s.size≤1000000):
 a0G prog 129 #[.pointer (some ⟨b,0,none⟩),.int .i64 k] [pin b s] (a0T (.int .u64 (be (s.data.toList.take k):Nat)) [pin b (s.extract k s.size)]):=by
 have h:min (max (k:Int) 1) 8=k:=by omega
 have j:(s.extract 0 k).size=k:=by rw[ByteArray.size_extract];omega
 have p:(s.extract 0 k).data.toList=s.data.toList.take k:=by simp
 refine en func129 ntmps129 fun R w0=> ?_;refine go 17 ?_;rw[h];refine cg 0 (b2W b s k q r) ?_;refine s1P Tst.o Tsl.o Tby.o rfl (by rw[j];simp only[maxLen];omega) (fun d k13 l m=> ?_);refine go 5 ?_;refine a0V (X:= {i:Nat // i≤k}) (fun x=> [(5,.int .u64 (be (s.data.toList.take x.1):Nat)),(13,.slice (some ⟨d,0,none⟩) (s.extract 0 k).size k13),(14,.int .i64 (s.extract 0 k).size),(15,.int .i64 x.1)]) (fun x=> [pts d (.cells (p0S (s.extract 0 k) k13).toArray 5 (k13,k13+1)),pin b (s.extract k s.size),R]) (fun x=>k-x.1) ⟨0,by omega⟩ gSu gSp ?_;rintro⟨i,hi⟩ m0 hm0
 try simp only at hm0
 try dsimp only
 skip;refine go 6 ?_;refine a0O rfl (fun a=> ?_) (fun a=> ?_)
 ·have c:i<k:=by have:=of_decide_eq_true a;omega
  have g:i<s.data.toList.length:=by
   have:s.data.toList.length=s.size:=by simp
   omega
  have f:(s.extract 0 k).data.toList[i]'(by simp;omega)=s.data.toList[i]:=by simp
  refine go 7 ?_;refine a0D (b0N Sc.o rfl (i1M (s.extract 0 k) k13 i (by omega) _ (by simp))) ?_;refine go 2 ?_;rw[f];refine go 3 ?_;refine a0D (g1E rfl rfl (by first|decide| (simp only[IntKind.bits];omega))) ?_;refine go 2 ?_;have n:=(s.data.toList[i]).toNat_lt;have e:=p2F s.data.toList i (by omega);rw[show IntKind.u64.wrap ((be (s.data.toList.take i):Nat)*2^Int.toNat 8)=((be (s.data.toList.take i)*256:Nat):Int)from q0Y _ _ (by simp) e,show IntKind.u64.wrap ((s.data.toList[i]).toNat:Int)=((s.data.toList[i]).toNat:Int)from q0Y _ _ rfl (by omega)];refine a0D (n2N rfl rfl) ?_;refine go 2 ?_;rw[x2F _ _ e (by omega),←u2K _ _ g];refine go 5 ?_;exact rd idh (⟨i+1,c⟩)
 ·have c:i=k:=by have:=of_decide_eq_false a;omega
  subst c;refine go 8 ?_;exact rG
abbrev bs (l:List UInt8):ByteArray:=⟨l.toArray⟩
theorem b0H (l:List UInt8):(bs l).size=l.length:=by show l.toArray.size=_;simp
theorem m0D (l:List UInt8):(bs l).data.toList=l:=by simp
theorem u1Y {a b:ByteArray} (h:a.data.toList=b.data.toList):a=b:=Go.WideShapes.bytes_inj h
theorem x0K (l:List UInt8) (k:Nat):(bs l).extract k (bs l).size=bs (l.drop k):=by
 refine u1Y ?_;rw[m0D,b0H];simp only[ByteArray.data_extract,Array.toList_extract,List.extract_eq_take_drop];rw[List.take_of_length_le (by simp)]
theorem a1V (l:List UInt8) (k:Nat):(bs l).extract 0 k=bs (l.take k):=by
 refine u1Y ?_;rw[m0D];simp
abbrev q0Z (b:Nat) (l:List UInt8):a0E:=pin b (bs l)
theorem a1W (b:Nat) (l:List UInt8) (k:Nat) (a:1≤k∧k≤8) (c:k≤l.length) (d:l.length≤1000000):
 a0G prog 129 #[.pointer (some ⟨b,0,none⟩),.int .i64 k] [q0Z b l] (a0T (.int .u64 (be (l.take k):Nat)) [q0Z b (l.drop k)]):=by
 have:=x2Y b (bs l) k a (by rw[b0H];exact c) (by rw[b0H];exact d);rw[x0K,m0D]at this;exact this
theorem p2G (b:Nat) (l:List UInt8) (k:Nat) (a:1≤k∧k≤8) (c:l.length<k) (d:l.length≤1000000):
 a0G prog 129 #[.pointer (some ⟨b,0,none⟩),.int .i64 k] [q0Z b l] (fun en L=>en= .panicked (v0J 2)∧L= [q0Z b l]):=
 u2L b (bs l) k a (by rw[b0H];exact c) (by rw[b0H];exact d)
theorem u0N (b:Nat) (l:List UInt8) (n:Nat) (a:n≤l.length) (c:l.length≤1000000):a0G prog 130 #[.pointer (some ⟨b,0,none⟩),.int .i64 n] [q0Z b l] (a0T (.string (bs (l.take n))) [q0Z b (l.drop n)]):=by
 have:=b2W b (bs l) n (by rw[b0H];exact a) (by rw[b0H];exact c);rw[x0K,a1V]at this;exact this
theorem u1Z (g:FuncId) (cap:List Value) (Pre N:List a0E) (v:Value) (hb:f0H prog g=true) (a:a0G prog g cap.toArray Pre (a0T v N)):
 a0G prog 34 #[.func (.func g) #[] cap.toArray] Pre (a0T (.int .i64 0) N):=by
 refine a0G.imp (l1T (X:=Unit) (Y:=Empty) g cap Pre (fun _=>True) (fun _=>v) (fun _=>N) (fun _=>True) (fun _=>0) (fun _=> []) hb (a0G.imp a ?_)) ?_
 ·rintro e L ⟨rfl,rfl⟩;exact .inl ⟨(),trivial,rfl,rfl⟩
 ·rintro e L ⟨x|y,_,rfl,rfl⟩
  ·exact⟨rfl,rfl⟩
  ·exact y.elim
theorem k2D (g:FuncId) (cap:List Value) (Pre N:List a0E) (er:Int) (hb:f0H prog g=true) (a:a0G prog g cap.toArray Pre (fun en L=>en= .panicked (v0J er)∧L=N)):
 a0G prog 34 #[.func (.func g) #[] cap.toArray] Pre (a0T (.int .i64 er) N):=by
 refine a0G.imp (l1T (X:=Empty) (Y:=Unit) g cap Pre (fun _=>True) (fun _=> .int .i64 0) (fun _=> []) (fun _=>True) (fun _=>er) (fun _=>N) hb (a0G.imp a ?_)) ?_
 ·rintro e L ⟨rfl,rfl⟩;exact .inr ⟨(),trivial,rfl,rfl⟩
 ·rintro e L ⟨x|y,_,rfl,rfl⟩
  ·exact x.elim
  ·exact⟨rfl,rfl⟩
abbrev pop (b:Nat) (cs:List Value):a0E:=pts b (.cells cs.toArray 70 (0,0))
theorem l1V (l:List UInt8) (i j:Nat):(bs l).extract i j=bs ((l.take j).drop i):=by
 refine u1Y ?_;rw[m0D];simp only[ByteArray.data_extract,Array.toList_extract,List.extract_eq_take_drop,m0D];rw[List.drop_take]
abbrev o0Y (b:Nat) (v:Value) (l:List UInt8):List a0E:= [pts b (.cells #[v] 144 (0,0)),b0I 5 1 v l.length (l.map a0Q)]
theorem b2X (x k m:Nat):(beB x k m).length=m:=by
 induction m with
 |zero=>rfl
 |succ m ih=>simp[beB,ih]
theorem t0S (b:Nat) (v:Value) (l:List UInt8) (s:ByteArray) (h:l.length≤1000000) (i:s.size≤1000000) (g:v.oneCell'=true):
 a0G prog 82 #[.pointer (some ⟨b,0,none⟩),.string s] (o0Y b v l) (b0P (fun e:Value=>e.oneCell'=true) (fun _=> .pointer (some ⟨b,0,none⟩)) (fun e=>o0Y b e (l++s.data.toList))):=by
 have d:s.data.toList.length=s.size:=by simp
 have c:(byteCells s)=s.data.toList.map a0Q:=rfl;refine en func82 ntmps82 fun R w0=> ?_;refine go 13 ?_;refine(d0E Tsl.o Ttb.o Zr.o rfl rfl rfl gFd (n1Q Tst.o) (by simp only[maxLen];omega) (by omega) (fun f a=> ?_));refine go 4 ?_;rw[c,←List.map_append,←d,←List.length_append];refine go 7 ?_;exact rE idh f a
theorem u2M (x k m:Nat) (h:m<k):IntKind.u8.wrap ((x:Int)/2^(8*((k:Int)-1- (m:Int))).toNat)=((UInt8.ofNat (x/256^(k-1-m))).toNat:Int):=by
 have a:(8*((k:Int)-1- (m:Int))).toNat=8*(k-1-m):=by omega
 have b:(2:Int)^(8*(k-1-m))=((256^(k-1-m):Nat):Int):=by rw[Int.pow_mul];norm_cast
 rw[a,b,IntKind.wrap_u8,UInt8.toNat_ofNat',←Int.natCast_ediv];omega
theorem s0U (b:Nat) (v:Value) (l:List UInt8) (x k:Nat) (s:1≤k∧k≤8) (t:l.length≤1000000) (q:v.oneCell'=true) (u:x<18446744073709551616):
 a0G prog 81 #[.pointer (some ⟨b,0,none⟩),.int .u64 x,.int .i64 k] (o0Y b v l) (b0P (fun i:Value=>i.oneCell'=true) (fun _=> .pointer (some ⟨b,0,none⟩)) (fun i=>o0Y b i (l++beB x k k))):=by
 have h:min (max (k:Int) 1) 8=k:=by omega
 refine en func81 ntmps81 fun R w0=> ?_;refine go 12 ?_;rw[h];refine go 10 ?_;rw[show(k:Int)-1=(k:Int)-1- ((0:Nat):Int)from by omega];refine k1U (L':=o0Y b v (l++beB x k 0)++ [R]) (by simp[beB]) ?_;refine a0V (X:= {y:Nat×Value // y.1≤k∧y.2.oneCell'=true}) (fun y=> [(0,.pointer (some ⟨b,0,none⟩)),(1,.int .u64 x),(7,.int .i64 ((k:Int)-1-y.1.1))]) (fun y=>o0Y b y.1.2 (l++beB x k y.1.1)++ [R]) (fun y=>k-y.1.1) ⟨(0,v),by omega,q⟩ gSu gSp ?_;rintro⟨⟨m,v⟩,hm,hv⟩ m0 hm0
 try simp only at hm0
 try dsimp only
 simp only at hm hv;refine ns ?_;have n:(l++beB x k m).length=l.length+m:=by rw[List.length_append,b2X]
 refine go 7 ?_;refine a0O rfl (fun a=> ?_) (fun a=> ?_)
 ·have d:m<k:=by have:=of_decide_eq_true a;omega
  have g:=u2M x k m d;refine go 4 ?_;refine fx (.r 0 4 (.r 5 5 (.float 10 (.hard 4 (.res (.hard 11 (.r 12 2 (.hard 14 .done)))))))) [] ?_;refine go 7 ?_;refine h0L rfl (t0B rfl rfl (by first|decide| (simp only[IntKind.bits];omega))) ?_;refine go 1 ?_;refine t0F (e0:= [(26,_)]) rfl gSu (fun _ _ _=>rfl) Tsl.o Zr.o rfl rfl rfl (by simp[m0O,r0L,Value.cells]<;>rfl) rfl ?_;refine b0Y rfl (fun c EE FF=> ?_);refine ns ?_;refine go 2 ?_;refine fn (E:=EE) (F:=FF) (c.put rfl) ?_;refine l0Y (fun p=> ?_);dsimp only;refine b0Y rfl (fun c EE FF=> ?_);refine ns ?_;refine(d0E Tsl.o Ttb.o Zr.o rfl rfl rfl gFd (f0I Tsl.o (by simp;rfl) (by simp) (by simp[Value.oneCell'])) (by simp only[maxLen];omega) (by omega) (fun j f=> ?_));refine go 1 ?_;refine fn (E:=EE) (F:=FF) (c.put rfl) ?_;refine go 2 ?_;refine b0Y rfl (fun c EE FF=> ?_);refine ns ?_;refine go 2 ?_;refine fn (E:=EE) (F:=FF) c ?_;refine go 1 ?_;rw[g];have e:(l++beB x k m).map a0Q++ [Value.int .u8 ((UInt8.ofNat (x/256^(k-1-m))).toNat:Int)]=(l++beB x k (m+1)).map a0Q:=by simp[beB,a0Q]
  rw[e,show(l++beB x k m).length+1=(l++beB x k (m+1)).length from by simp only[List.length_append,b2X];omega];refine go 6 ?_;rw[show(k:Int)-1- (m:Int)-1=(k:Int)-1- ((m+1:Nat):Int)from by omega];exact rd idh (⟨(m+1,j),d,f⟩)
 ·have d:m=k:=by have:=of_decide_eq_false a;omega
  subst d;refine go 8 ?_;exact rE idh v hv
theorem v0K (b:Nat) (v:Value) (l:List UInt8) (a:v.oneCell'=true):a0G prog 83 #[.pointer (some ⟨b,0,none⟩)] (o0Y b v l) (a0T (.string (bs l)) []):=by
 refine en func83 ntmps83 fun R w0=> ?_;refine go 11 ?_;refine a0D (y0V Tsl.o Tst.o Tby.o rfl gFd) ?_;refine go 3 ?_;exact rG
end Go.Proofs.Q
namespace Go.Proofs.Q
open Go Go.Sl Tryz
instance:Tar prog 190 3 3 1:=⟨kr⟩
instance:Fl prog 192 0 0:=⟨kr⟩
instance:Fl prog 192 1 1:=⟨kr⟩
instance:Fl prog 192 2 2:=⟨kr⟩
instance:Hb prog 146:=⟨kr⟩
instance:Hb prog 184:=⟨kr⟩
instance:Hb prog 223:=⟨kr⟩
instance:Pl prog 192 ([(0,1),(1,1),(2,3)],.agg #[.int .i64 0,.slice none 0 0,.int .i64 0,.int .i64 0,.int .i64 0]):=⟨kr⟩
end Go.Proofs.Q
namespace Go.Proofs.Q
open Go.Sl Go.Sb Tryz
def gst (s:Nat):Value:= .int .i64 s
def l0V (fr bl:Nat) (l:List Nat):List Value:= [.int .i64 fr,.slice (some ⟨bl,0,none⟩) l.length l.length,.int .i64 (l.count 0),.int .i64 (l.count 1),.int .i64 (l.count 2)]
abbrev gm (b bl fr:Nat) (l:List Nat):List a0E:= [pts b (.cells (l0V fr bl l).toArray 192 (0,0)),pts bl (.cells (l.map gst).toArray 3 (0,0))]
theorem l1W {l:List Nat} {i k s:Nat} (b:l[i]? =some s) (a:k=i):nth (l.map gst) k=some (.int .i64 s):=by
 subst a;rw[e0F];simp[b,gst]
theorem e1V (b bl fr i s c:Nat) (l:List Nat) (at_:Int) (q:at_=fr+i) (g:l[i]? =some s) (u:s<3) (v:c<3) (t:fr≤5000) (x:l.length≤5000):
 a0G prog 146 #[.pointer (some ⟨b,0,none⟩),.int .i64 at_,.int .i64 c] (gm b bl fr l) (fun e L=>e= .returned (.tuple #[])∧L=gm b bl fr (l.set i c)):=by
 have hi:i<l.length:=by
  rcases Nat.lt_or_ge i l.length with h|h
  ·exact h
  ·rw[List.getElem?_eq_none h]at g;cases g
 have c0:l.count 0≤l.length:=List.count_le_length;have c1:l.count 1≤l.length:=List.count_le_length;have c2:l.count 2≤l.length:=List.count_le_length;have p:at_- (fr:Int)=i:=by omega
 have m:(at_- (fr:Int)).toNat=i:=by omega
 have w:s=0∨s=1∨s=2:=by omega
 have w3:c=0∨c=1∨c=2:=by omega
 have j:l[i]=s:=by rw[List.getElem?_eq_getElem hi]at g;exact Option.some.inj g
 have n:0<l.count s:=List.count_pos_iff.2 (j▸List.getElem_mem hi);have d:=fun k=>List.count_set (a:=c) (b:=k) hi;rw[j]at d;have f:(l.map gst).set (0+(at_- (fr:Int)).toNat*1) (.int .i64 c)=(l.set i c).map gst:=by
  rw[m,Nat.zero_add,Nat.mul_one,List.map_set];rfl
 have r:((l.count s-1:Nat):Int)=(l.count s:Int)-1:=by omega
 rcases w with rfl|rfl|rfl<;>rcases w3 with rfl|rfl|rfl
 all_goals
  refine en func146 ntmps146 fun R w0=> ?_
  try simp only[gm,l0V]
  refine go 1 ?_;refine tl 20 ?_;refine go 12 ?_;refine b0V (b0N Sc.o rfl (l1W g (by omega))) ?_;refine go 2 ?_;refine b0V (k1S Tar.o rfl rfl (by decide)) ?_;refine go 5 ?_;refine a0D (k1S Tar.o rfl rfl (by decide)) ?_;refine go 4 ?_;refine tl 11 ?_;refine go 13 ?_;refine(d0T Sz.o rfl rfl rfl (by simp;omega) (by rfl) ?_);refine go 2 ?_;refine tl 9 ?_;refine go 4 ?_;refine b0V (k1S Tar.o rfl rfl (by decide)) ?_;refine go 5 ?_;refine a0D (k1S Tar.o rfl rfl (by decide)) ?_;refine go 2 ?_;refine x0Q rfl (L':= [_,_]) (by repeat (first|exact b0A.nil|refine b0A.cons Fnd.here ?_)) ⟨rfl,?_⟩;rw[f];simp[d,r]
theorem k2E (fr n:Nat) (to_:Int) (i:to_=fr+n) (f:fr≤5000) (j:n≤5000):
 a0G prog 86 #[.int .i64 fr,.int .i64 to_] [] (b0P (fun _:Nat×Nat=>True) (fun x=> .pointer (some ⟨x.1,0,none⟩)) (fun x=>gm x.1 x.2 fr (List.replicate n 0))):=by
 refine en func86 ntmps86 fun R w0=> ?_;have h:to_- (fr:Int)=n:=by omega
 have g:max (to_- (fr:Int)) 0=n:=by omega
 refine go 12 ?_;refine(r1Q (n:=n) Tsl.o Ttb.o Zr.o rfl rfl rfl (by omega) (by omega) (by omega) (by omega) (fun a=> ?_));refine go 1 ?_;refine bx fun b=> ?_;refine go 4 ?_;refine tl 8 ?_;refine go 19 ?_;have c:(List.replicate n 0).count 0=n:=List.count_replicate_self;have d:(List.replicate n 0).count 1=0:=by rw[List.count_replicate];simp
 have e:(List.replicate n 0).count 2=0:=by rw[List.count_replicate];simp
 refine k1U (L':=gm b a fr (List.replicate n 0)++ [R]) (by simp[gm,l0V,c,d,e,gst]) ?_;exact rE idh (b,a) trivial
theorem u2N (a b:Nat):((a:Int) == (b:Int))=decide (a=b):=by
 rw[show((a:Int) == (b:Int))=decide ((a:Int)=b)from rfl];exact decide_eq_decide.2 (by omega)
theorem v1A (b bl fr a:Nat) (l:List Nat) (at_:Int) (h: -9223372036854775808≤at_∧at_≤9223372036854775807) (g:fr≤5000) (i:l.length≤5000):
 a0G prog 223 #[.pointer (some ⟨b,0,none⟩),.int .i64 at_,.int .i64 a] (gm b bl fr l) (a0T (.bool (isB fr l at_ a)) (gm b bl fr l)):=by
 by_cases d:at_≥fr
 ·by_cases e:at_-fr<l.length
  ·have c:(at_- (fr:Int)).toNat<l.length:=by omega
   have f:l[(at_- (fr:Int)).toNat]? =some l[(at_- (fr:Int)).toNat]:=List.getElem?_eq_getElem c;refine en func223 ntmps223 fun R w0=> ?_
   try simp only[gm,l0V]
   refine go 39 ?_;refine n0H (wg rfl rfl rfl (wTT gT)) (b0N Sc.o rfl (l1W f (by omega))) ?_;refine go 6 ?_;exact rG (hu:=(by simp only[isB,d,e,decide_true,Bool.true_and,f,Option.some.injEq];rw[u2N]))
  ·refine en func223 ntmps223 fun R w0=> ?_
   try simp only[gm,l0V]
   refine go 46 ?_;exact rG (hu:=(by simp[isB,e]))
 ·refine en func223 ntmps223 fun R w0=> ?_
  try simp only[gm,l0V]
  refine go 46 ?_;exact rG (hu:=(by simp[isB,d]))
theorem x2Z {fr:Nat} {l:List Nat} {at_:Int} {k:Nat} (h:isB fr l at_ k=true): ∃i:Nat,at_=fr+i∧l[i]? =some k:=by
 simp only[isB,Bool.and_eq_true,decide_eq_true_eq]at h;exact⟨(at_-fr).toNat,by omega,h.2.2⟩
theorem w0Q (b bl fr k to_:Nat) (l:List Nat) (at_:Int) (f: -9223372036854775808≤at_∧at_≤9223372036854775807) (g:k<3) (j:to_<3) (a:fr≤5000) (d:l.length≤5000):
 a0G prog 184 #[.pointer (some ⟨b,0,none⟩),.int .i64 at_,.int .i64 k,.int .i64 to_] (gm b bl fr l) (a0T (.bool (isB fr l at_ k)) (gm b bl fr (mvL fr l at_ k to_))):=by
 cases hb:isB fr l at_ k with
 |true=>
  obtain⟨i,hi,h⟩:=x2Z hb;have e:(at_- (fr:Int)).toNat=i:=by omega
  have c:=e1V b bl fr i k to_ l at_ hi h g j a d;simp only[mvL,hb,e];refine en func184 ntmps184 fun R w0=> ?_;refine cg 11 (v1A b bl fr k l at_ f a d) ?_;refine go 3 ?_;refine b0S rfl (by rw[hb];rfl) ?_;refine cg 7 (c) ?_;refine go 7 ?_;exact rG
 |false=>
  simp only[mvL,hb];refine en func184 ntmps184 fun R w0=> ?_;refine cg 11 (v1A b bl fr k l at_ f a d) ?_;refine go 3 ?_;refine d0P rfl (by rw[hb];rfl) ?_;refine go 5 ?_;exact rG
theorem l1X (b bl fr:Nat) (l:List Nat) (at_:Int) (c: -9223372036854775808≤at_∧at_≤9223372036854775807) (a:fr≤5000) (d:l.length≤5000):
 a0G prog 209 #[.pointer (some ⟨b,0,none⟩),.int .i64 at_] (gm b bl fr l) (a0T (.bool (isB fr l at_ 0)) (gm b bl fr (mvL fr l at_ 0 1))):=by
 refine en func209 ntmps209 fun R w0=> ?_;refine cg 9 (w0Q b bl fr 0 1 l at_ c (by decide) (by decide) a d) ?_;refine go 3 ?_;exact rG
theorem l1Y (b bl fr:Nat) (l:List Nat) (at_:Int) (c: -9223372036854775808≤at_∧at_≤9223372036854775807) (a:fr≤5000) (d:l.length≤5000):
 a0G prog 150 #[.pointer (some ⟨b,0,none⟩),.int .i64 at_] (gm b bl fr l) (a0T (.bool (isB fr l at_ 1)) (gm b bl fr (mvL fr l at_ 1 0))):=by
 refine en func150 ntmps150 fun R w0=> ?_;refine cg 9 (w0Q b bl fr 1 0 l at_ c (by decide) (by decide) a d) ?_;refine go 3 ?_;exact rG
theorem z0X (b bl fr:Nat) (l:List Nat) (at_:Int) (c: -9223372036854775808≤at_∧at_≤9223372036854775807) (a:fr≤5000) (d:l.length≤5000):
 a0G prog 258 #[.pointer (some ⟨b,0,none⟩),.int .i64 at_] (gm b bl fr l) (a0T (.bool (isB fr l at_ 1)) (gm b bl fr (mvL fr l at_ 1 2))):=by
 refine en func258 ntmps258 fun R w0=> ?_;refine cg 9 (w0Q b bl fr 1 2 l at_ c (by decide) (by decide) a d) ?_;refine go 3 ?_;exact rG
theorem l1Z (b bl fr:Nat) (l:List Nat) (at_:Int) (c: -9223372036854775808≤at_∧at_≤9223372036854775807) (a:fr≤5000) (d:l.length≤5000):
 a0G prog 149 #[.pointer (some ⟨b,0,none⟩),.int .i64 at_] (gm b bl fr l) (a0T (.bool (isB fr l at_ 2)) (gm b bl fr (mvL fr l at_ 2 1))):=by
 refine en func149 ntmps149 fun R w0=> ?_;refine cg 9 (w0Q b bl fr 2 1 l at_ c (by decide) (by decide) a d) ?_;refine go 3 ?_;exact rG
theorem w0R (b bl fr:Nat) (l:List Nat):
 a0G prog 57 #[.pointer (some ⟨b,0,none⟩)] (gm b bl fr l) (a0T (.int .i64 (l.count 0)) (gm b bl fr l)):=by
 refine en func57 ntmps57 fun R w0=> ?_
 try simp only[gm,l0V]
 refine go 15 ?_;exact rG
theorem f2A (b bl fr:Nat) (l:List Nat):
 a0G prog 63 #[.pointer (some ⟨b,0,none⟩)] (gm b bl fr l) (a0T (.int .i64 (l.count 1)) (gm b bl fr l)):=by
 refine en func63 ntmps63 fun R w0=> ?_
 try simp only[gm,l0V]
 refine go 15 ?_;exact rG
theorem f2B (b bl fr:Nat) (l:List Nat) (m:fr≤5000) (q:l.length≤5000):
 a0G prog 249 #[.pointer (some ⟨b,0,none⟩)] (gm b bl fr l)
  (a0T (match l.findIdx? (· == 0)with|some i=> .tuple #[.int .i64 (fr+i),.bool true]|none=> .tuple #[.int .i64 0,.bool false])
   (gm b bl fr (match l.findIdx? (· == 0)with|some i=>l.set i 1|none=>l))):=by
 refine en func249 ntmps249 fun R w0=> ?_
 try simp only[gm,l0V]
 refine go 18 ?_;refine a0V (X:= {i:Nat // i≤l.length∧ ∀j (e:j<l.length),j<i→l[j]≠0}) (fun x=> [(0,.pointer (some ⟨b,0,none⟩)),(9,.slice (some ⟨bl,0,none⟩) l.length l.length),(10,.int .i64 l.length),(11,.int .i64 x.1)]) (fun x=>gm b bl fr l++ [R]) (fun x=>l.length-x.1) ⟨0,by omega,fun j _ h=>by omega⟩ gSu gSp ?_;rintro⟨i,hi,hpre⟩ m0 hm0
 try simp only at hm0
 try dsimp only
 simp only[gm,l0V,List.cons_append,List.nil_append];refine go 6 ?_;refine a0O rfl (fun c=> ?_) (fun c=> ?_)
 ·have d:i<l.length:=by have:=of_decide_eq_true c;omega
  have n:l[i]? =some l[i]:=List.getElem?_eq_getElem d;refine go 8 ?_;refine a0D (b0N Sc.o rfl (l1W n (by omega))) ?_;refine go 10 ?_;refine a0O rfl (fun a=> ?_) (fun a=> ?_)
  ·have g:l[i]=0:=by have:=eq_of_beq a;omega
   have k:l.findIdx? (· == 0)=some i:=by
    rw[List.findIdx?_eq_some_iff_getElem];exact⟨d,by simp[g],fun j e=>by simpa using hpre j (by omega) e⟩
   have f:=e1V b bl fr i 0 1 l (fr+i) (by omega) (by rw[n,g]) (by decide) (by decide) m q;simp only[k];refine cg 9 (f) ?_;refine go 14 ?_;exact rG
  ·have g:l[i]≠0:=by intro h;rw[h]at a;exact absurd a (by decide)
   refine go 6 ?_;refine rd idh (⟨i+1,d,fun j e h=> ?_⟩);rcases Nat.lt_succ_iff_lt_or_eq.1 h with h|h
   ·exact hpre j e h
   ·subst h;exact g
 ·have p:i=l.length:=by have:=of_decide_eq_false c;omega
  have k:l.findIdx? (· == 0)=none:=by
   rw[List.findIdx?_eq_none_iff];intro x r;obtain⟨j,e,rfl⟩:=List.getElem_of_mem r;simpa using hpre j e (by omega)
  simp only[k];refine go 8 ?_;exact rG
end Go.Proofs.Q
namespace Go.Proofs.Q
section
open Go.Sl Go.Sb Tryz
end
end Go.Proofs.Q
